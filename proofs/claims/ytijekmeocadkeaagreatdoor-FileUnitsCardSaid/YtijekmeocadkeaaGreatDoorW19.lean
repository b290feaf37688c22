import Derived.Test.YtijekmeocadkeaaGreatDoorW15
namespace Go.Proofs.YtijekmeocadkeaaGreatDoor
open Go.RowKit
set_option linter.unusedVariables false
set_option linter.unusedSimpArgs false
set_option maxRecDepth 100000
set_option maxHeartbeats 0
open Go.RowKit Go.Shelf Go.Lib
theorem ziL: ∀(l:List Ch) (j:Nat),j<l.length->(zdA l)[j*2]?=some (.string l[j]!.1)/\(zdA l)[j*2+1]?=some (.string l[j]!.2)
 |[],j,h=>absurd h (zzC _)
 |x::l,0,_=>⟨rfl,rfl⟩
 |x::l,j+1,h=>by
  have ih:=ziL l j (by simpa using h);have e1:(j+1)*2=j*2+2:=by omega
  have e2:(x::l)[j+1]! =l[j]!:=by simp
  rw [e1,e2];show(Value.string x.1::Value.string x.2::zdA l)[j*2+2]?=_/\(Value.string x.1::Value.string x.2::zdA l)[j*2+2+1]?=_
  exact ih
theorem zeW {w:World} {B:Nat} {v:Value} {l:List Ch} (h:w.ownsRow B 46 2 v l.length (zdA l)):ListAt w v l:=by
 rcases h.2 with⟨rfl,h0⟩|⟨g,cap,cur,rfl,hB,hg,hn,hc,hs,ht⟩
 ·exact⟨none,0,by rw [h0],.inl (zzQ h0)⟩
 ·refine⟨_,cap,rfl,.inr ⟨g,0,rfl,zbV hg,fun j hj=>?_⟩⟩
  have hh:=ziL l j hj;rw [<-ht]at hh;have l1:j*2<l.length*2:=by omega
  have l2:j*2+1<l.length*2:=by omega
  rw [List.getElem?_take,if_pos l1,List.getElem?_take,if_pos l2]at hh;rw [zzq2 _ _ _ _ _ _ hg,zzq2 _ _ _ _ _ _ hg,Nat.zero_add,<-Array.getElem?_toList,<-Array.getElem?_toList];exact hh
theorem zjZ (v:Value) (l:List Ch) (w:World) (h:ListAt w v l) (hl:l.length<=9223372036854775807):
  Calls Tryz.prog 23 #[v] w fun e w'=>e= .returned (.bool (dst l))/\Below w.heap.size w w':=by
 obtain⟨ao,c,rfl,hs⟩:=zh0 h;exact zgP ao c l w hs hl
theorem zeo {a b:World} {r:Nat} (h:a.grownBy b (some r)) (hr:r<=a.heap.size):Below r a b:=
 ⟨h.os,h.tape,h.output,h.size,fun k hk=>h.block k (by omega) (fun e=>by have:=zzf e;omega)⟩
theorem zma (b:List UInt8) (w:World) (hbz:b.length<=9223372036854775807):
  Calls Tryz.prog 12 #[.string ⟨b.toArray⟩] w fun e w'=> ∃v,e= .returned (.tuple #[v,.int .i64 (zfN b)])/\ListAt w' v (zi4 b)/\Below w.heap.size w w':=by
 have hbs:(⟨b.toArray⟩:ByteArray).size=b.length:=by show b.toArray.size=_;simp
 by_cases hbig:16777216<b.length
 ·have e1:zfN b=3:=if_pos hbig
  have e2:zi4 b= []:=if_pos hbig;rw [e1,e2];clear e1 e2;have hbi:(16777216:Int)<b.length:=by omega
  go_in;go_wp2;go_ret2;exact⟨_,rfl,zdM _,zzR _ _⟩
 ·have e1:zfN b=match zfl b with
   |none=>6
   |some _=>if be4 (crc (b.take (b.length-4)))=b.drop (b.length-4)then 0 else 260:=if_neg hbig
  have e2:zi4 b=match zfl b with
   |none=>[]
   |some l=>if be4 (crc (b.take (b.length-4)))=b.drop (b.length-4)then l else []:=if_neg hbig
  generalize zfN b=E at *;generalize zi4 b=L at *;have HE:=zzH e1;have HL:=zzH e2;clear e1 e2;have hbi: ¬(16777216:Int)<b.length:=by omega
  by_cases h4:b.length<4
  ·have ef:zfl b=none:=if_pos (by omega)
   have hE6:E=6:=by have:=HE.out;rw [ef]at this;exact this
   have hL0:L= []:=by have:=HL.out;rw [ef]at this;exact this
   subst hE6;subst hL0;clear HE HL;go_in;go_wp2_with fail;have hA:fl_RdAt w.heap.size b (.slice none 0 0) (w.alloc (.cells #[.string ⟨b.toArray⟩,.slice none 0 0] 76)):=zzF _ _;have hB:Below w.heap.size w (w.alloc (.cells #[.string ⟨b.toArray⟩,.slice none 0 0] 76)):=zzE _ _;have hsz:(w.alloc (.cells #[.string ⟨b.toArray⟩,.slice none 0 0] 76)).heap.size=w.heap.size+1:=by simp
   have hwr:w.heap.size<=w.heap.size:=zzL _;generalize w.alloc (.cells #[.string ⟨b.toArray⟩,.slice none 0 0] 76)=wa at *;generalize hR:w.heap.size=r at hA hB hsz hwr ⊢;refine(zel r b _ 4 4 rfl _ hA h4 (by omega)).mono ?_;rintro e w1 ⟨rfl,rfl⟩;go_wp2_with (go_at_call 29;refine(zht r b _ _ hA h4).mono ?_;rintro e w2 ⟨rfl,rfl⟩);go_ret2;exact⟨_,rfl,zdM _,by(try rw [hR]);exact hB⟩
  ·by_cases h8:b.length<8
   ·have ef:zfl b=none:=if_pos (by omega)
    have hE6:E=6:=by have:=HE.out;rw [ef]at this;exact this
    have hL0:L= []:=by have:=HL.out;rw [ef]at this;exact this
    subst hE6;subst hL0;clear HE HL;have h8':(b.drop 4).length<4:=by rw [List.length_drop];omega
    go_in;go_wp2_with fail;have hA:fl_RdAt w.heap.size b (.slice none 0 0) (w.alloc (.cells #[.string ⟨b.toArray⟩,.slice none 0 0] 76)):=zzF _ _;have hB:Below w.heap.size w (w.alloc (.cells #[.string ⟨b.toArray⟩,.slice none 0 0] 76)):=zzE _ _;have hsz:(w.alloc (.cells #[.string ⟨b.toArray⟩,.slice none 0 0] 76)).heap.size=w.heap.size+1:=by simp
    have hwr:w.heap.size<=w.heap.size:=zzL _;generalize w.alloc (.cells #[.string ⟨b.toArray⟩,.slice none 0 0] 76)=wa at *;generalize hR:w.heap.size=r at hA hB hsz hwr ⊢;refine(zcs r b _ 4 4 rfl _ hA (by omega) (by omega)).mono ?_;rintro e w1 ⟨rfl,h1,hg1⟩;go_wp2_with (go_at_call 29;refine(zht r _ _ _ h1 h8').mono ?_;rintro e w2 ⟨rfl,rfl⟩);go_ret2;exact⟨_,rfl,zdM _,by(try rw [hR]);exact hB.trans (zeo hg1 (by omega))⟩
   ·have ef:zfl b=if b.take 4=zgH/\zdI ((b.drop 4).take 4)=b.length-8 then(match zer 17 [] (b.drop 8)with
         |none=>none
         |some l=>if dst l=true then some l else none)else none:=if_neg (by omega)
    generalize zfl b=F at *;have HEF:=zzH ef;clear ef;have hl4:(b.drop 4).length=b.length-4:=List.length_drop;have hnum:=fun(lv:Value) (r:Nat) (wx:World) hx=>zhV r (b.drop 4) lv wx hx (by omega) (by omega)
    have e8:(b.drop 4).drop 4=b.drop 8:=by rw [List.drop_drop]
    rw [e8]at hnum;have htk:=fun(lv:Value) (r:Nat) (wx:World) (hx:fl_RdAt r b lv wx)=>zcs r b lv 4 4 rfl wx hx (by omega) (by omega)
    have hl8:(b.drop 8).length=b.length-8:=List.length_drop;generalize b.take 4=mg at *;generalize zdI ((b.drop 4).take 4)=n at *;generalize b.drop 8=D at *;generalize b.drop 4=D4 at *;clear e8;go_in;go_wp2_with fail;have hA:fl_RdAt w.heap.size b (.slice none 0 0) (w.alloc (.cells #[.string ⟨b.toArray⟩,.slice none 0 0] 76)):=zzF _ _;have hB:Below w.heap.size w (w.alloc (.cells #[.string ⟨b.toArray⟩,.slice none 0 0] 76)):=zzE _ _;have hsz:(w.alloc (.cells #[.string ⟨b.toArray⟩,.slice none 0 0] 76)).heap.size=w.heap.size+1:=by simp
    have hwr:w.heap.size<=w.heap.size:=zzL _;generalize w.alloc (.cells #[.string ⟨b.toArray⟩,.slice none 0 0] 76)=wa at *;generalize hR:w.heap.size=r at hA hB hsz hwr ⊢;refine(htk _ r _ hA).mono ?_;rintro e w1 ⟨rfl,h1,hg1⟩;go_wp2_with fail;refine(hnum _ r _ h1).mono ?_;rintro e w2 ⟨rfl,h2,hg2⟩;clear hnum htk;have hgb:=zbc hg1 hg2;have hB2:Below r w w2:=hB.trans (zeo hgb (by omega));have hrl:=h2.lt;have c20:=h2.c0;have c21:=h2.c1;have hDs:(⟨D.toArray⟩:ByteArray).size=D.length:=by show D.toArray.size=_;simp
    clear hg1 hg2 hgb h1 hA;by_cases hM:mg=zgH
    ·subst hM
     by_cases hN:n=b.length-8
     ·have hni:((n:Int)==(D.length:Int))=true:=by rw [hN,<-hl8];exact beq_self_eq_true _
      have hal:=zsh r D w2 h2 (by omega)
      cases hall:zer 17 [] D with
      |none=>
       rw [hall]at hal;have hFv:F=none:=by rw [HEF.out,if_pos ⟨rfl,hN⟩,hall]
       subst hFv;obtain rfl:E=6:=HE.out;obtain rfl:L= []:=HL.out;clear HE HL;go_wp2_with (go_at_call 30;refine hal.mono ?_;rintro e w3 ⟨rfl,hg3⟩);go_ret2;exact⟨_,rfl,zdM _,by(try rw [hR]);exact hB2.trans (zeo hg3 (by omega))⟩
      |some l=>
       rw [hall]at hal;have hFv:F=if dst l=true then some l else none:=by rw [HEF.out,if_pos ⟨rfl,hN⟩,hall]
       go_wp2_with fail;refine hal.mono ?_;rintro e w3 ⟨⟨rfl,r',lv,h3,ho3⟩,hg3⟩;have c31:=h3.c1;have hB3:Below r w w3:=hB2.trans (zeo hg3 (by omega));have hr3:=h3.lt;have hdi:=zjZ lv l w3 (zeW ho3) (by have:=zke hall;rw [List.length_nil]at this;omega)
       cases hdd:dst l with
       |false=>
        rw [hdd]at hFv hdi;have hFn:F=none:=hFv;subst hFn;obtain rfl:E=6:=HE.out;obtain rfl:L= []:=HL.out;clear HE HL;go_wp2_with (go_at_call 23;refine hdi.mono ?_;rintro e w4 ⟨rfl,hb4⟩);go_ret2;exact⟨_,rfl,zdM _,by(try rw [hR]);exact hB3.trans (hb4.mono (by omega))⟩
       |true=>
        rw [hdd]at hFv hdi;have hFn:F=some l:=hFv;subst hFn;by_cases hq:be4 (crc (b.take (b.length-4)))=b.drop (b.length-4)
        ·obtain rfl:E=0:=HE.out.trans (if_pos hq)
         obtain rfl:l=L:=(HL.out.trans (if_pos hq)).symm;clear HE HL;have HQ:=zzH hq;clear hq;go_wp2_with fail;refine hdi.mono ?_;rintro e w4 ⟨rfl,hb4⟩;have h5:=h3.below hb4;have hl5:=zeW (zbX ho3 hb4);have hB4:Below r w w4:=hB3.trans (hb4.mono (by omega));have c41:=h5.c1;have ho4:=zbX ho3 hb4;have hr4:=h5.lt;go_upto_region 8 with fail;clear hal hdi hb4 ho3 h3 hg3 hB3 c31 hl5;have hsub:(b.length:Int)-4=((b.length-4:Nat):Int):=by omega
         have hw1:IntKind.i64.wrap ((b.length:Int)-4)=(b.length:Int)-4:=by rw [zzq5];omega
         have hs1: ∀wx,(Instr.slice 9 (.string ⟨b.toArray⟩) none (some (.int .i64 ((b.length:Int)-4))) none).run Tryz.prog wx= .ok (.string ⟨(b.take (b.length-4)).toArray⟩) wx:=fun wx=>by
          exact zz19
         have hs2: ∀wx,(Instr.slice 9 (.string ⟨b.toArray⟩) (some (.int .i64 ((b.length:Int)-4))) none none).run Tryz.prog wx= .ok (.string ⟨(b.drop (b.length-4)).toArray⟩) wx:=fun wx=>by
          exact zz18
         have hTl:(b.take (b.length-4)).length<=16777216:=by rw [List.length_take];omega
         have hcl:=zij (b.take (b.length-4));generalize b.take (b.length-4)=T at *;generalize b.drop (b.length-4)=U at *;clear hsub;have hsm: ∀wx,Calls Tryz.prog 13 #[.string ⟨T.toArray⟩] wx fun e w'=>e= .returned (.int .u32 (crc T))/\Below wx.heap.size wx w':=fun wx=>zfG ⟨T.toArray⟩ wx (by show T.toArray.size<=maxLen;unfold maxLen;simp;omega)
         generalize hc:crc T=cs at *;have hnu: ∀wx,Calls Tryz.prog 26 #[.int .i64 (cs:Int)] wx fun e w'=>e= .returned (.string ⟨(be4 cs).toArray⟩)/\Below wx.heap.size wx w':=fun wx=>zdj (cs:Int) wx (by omega) (by omega)
         generalize hbe:be4 cs=Q at *;have hwc:IntKind.i64.wrap (cs:Int)=cs:=by rw [zzq5];omega
         have hB4d:Below r w w4.drew:=hB4.drew;have h5d:fl_RdAt r r' lv w4.drew:=h5;have ho4d:w4.drew.ownsRow w2.heap.size 46 2 lv l.length (zdA l):=ho4;have hqb:(Q==U)=true:=by rw [HQ.out];exact beq_self_eq_true _
         clear HQ
         go_region_held3 (fun _=>True) (trivial)
          (first
           |(go_at_call 13;refine(hsm _).mono ?_;rintro e w5 ⟨rfl,hb5⟩;have qB:=hB4d.trans (hb5.mono (zzb hr4));have qR:=h5d.below hb5;have qO:=zbX ho4d hb5)
           |(go_at_call 26;refine(hnu _).mono ?_;rintro e w6 ⟨rfl,hb6⟩;have sB:=qB.trans (hb6.mono (zzb qR.lt));have sR:=qR.below hb6;have sO:=zbX qO hb6))
         have c61:=sR.c1;go_wp2;go_ret2;exact⟨_,rfl,zeW sO,by(try rw [hR]);exact sB⟩
        ·obtain rfl:E=260:=HE.out.trans (if_neg hq)
         obtain rfl:L= []:=HL.out.trans (if_neg hq);clear HE HL;have HQ:=zzH hq;clear hq;go_wp2_with fail;refine hdi.mono ?_;rintro e w4 ⟨rfl,hb4⟩;have h5:=h3.below hb4;have hl5:=zeW (zbX ho3 hb4);have hB4:Below r w w4:=hB3.trans (hb4.mono (by omega));have c41:=h5.c1;have ho4:=zbX ho3 hb4;have hr4:=h5.lt;go_upto_region 8 with fail;clear hal hdi hb4 ho3 h3 hg3 hB3 c31 hl5;have hsub:(b.length:Int)-4=((b.length-4:Nat):Int):=by omega
         have hw1:IntKind.i64.wrap ((b.length:Int)-4)=(b.length:Int)-4:=by rw [zzq5];omega
         have hs1: ∀wx,(Instr.slice 9 (.string ⟨b.toArray⟩) none (some (.int .i64 ((b.length:Int)-4))) none).run Tryz.prog wx= .ok (.string ⟨(b.take (b.length-4)).toArray⟩) wx:=fun wx=>by
          exact zz19
         have hs2: ∀wx,(Instr.slice 9 (.string ⟨b.toArray⟩) (some (.int .i64 ((b.length:Int)-4))) none none).run Tryz.prog wx= .ok (.string ⟨(b.drop (b.length-4)).toArray⟩) wx:=fun wx=>by
          exact zz18
         have hTl:(b.take (b.length-4)).length<=16777216:=by rw [List.length_take];omega
         have hcl:=zij (b.take (b.length-4));generalize b.take (b.length-4)=T at *;generalize b.drop (b.length-4)=U at *;clear hsub;have hsm: ∀wx,Calls Tryz.prog 13 #[.string ⟨T.toArray⟩] wx fun e w'=>e= .returned (.int .u32 (crc T))/\Below wx.heap.size wx w':=fun wx=>zfG ⟨T.toArray⟩ wx (by show T.toArray.size<=maxLen;unfold maxLen;simp;omega)
         generalize hc:crc T=cs at *;have hnu: ∀wx,Calls Tryz.prog 26 #[.int .i64 (cs:Int)] wx fun e w'=>e= .returned (.string ⟨(be4 cs).toArray⟩)/\Below wx.heap.size wx w':=fun wx=>zdj (cs:Int) wx (by omega) (by omega)
         generalize hbe:be4 cs=Q at *;have hwc:IntKind.i64.wrap (cs:Int)=cs:=by rw [zzq5];omega
         have hB4d:Below r w w4.drew:=hB4.drew;have h5d:fl_RdAt r r' lv w4.drew:=h5;have ho4d:w4.drew.ownsRow w2.heap.size 46 2 lv l.length (zdA l):=ho4
         have hqb:(Q==U)=false:=by
          cases hb:Q==U with
          |false=>rfl
          |true=>exact absurd (eq_of_beq hb) HQ.out
         clear HQ
         go_region_held3 (fun _=>True) (trivial)
          (first
           |(go_at_call 13;refine(hsm _).mono ?_;rintro e w5 ⟨rfl,hb5⟩;have qB:=hB4d.trans (hb5.mono (zzb hr4));have qR:=h5d.below hb5;have qO:=zbX ho4d hb5)
           |(go_at_call 26;refine(hnu _).mono ?_;rintro e w6 ⟨rfl,hb6⟩;have sB:=qB.trans (hb6.mono (zzb qR.lt));have sR:=qR.below hb6;have sO:=zbX qO hb6))
         have c61:=sR.c1;go_wp2;go_ret2;exact⟨_,rfl,zdM _,by(try rw [hR]);exact sB⟩
     ·have hni:((n:Int)==(D.length:Int))=false:=by
       cases hb:(n:Int)==(D.length:Int)with
       |false=>rfl
       |true=>have:=eq_of_beq hb;omega
      have hFv:F=none:=by rw [HEF.out,if_neg (fun h=>hN h.2)]
      exact zz17
    ·have hmb:(mg== [83,72,78,68])=false:=by
      cases hb:mg== [83,72,78,68]with
      |false=>rfl
      |true=>exact absurd (eq_of_beq hb) hM
     have hFv:F=none:=by rw [HEF.out,if_neg (fun h=>hM h.1)]
     exact zz17
open Go.RowKit Go.Shelf Go.Lib
def c0:Ch:=(⟨#[65,98,99,100]⟩,⟨#[120]⟩)
theorem ztW:dst [c0]=true:=by decide +kernel
theorem zmv:szL [c0]=32:=by decide +kernel
theorem zrh:zf7 [c0]:=⟨by decide,fun j hj=>by
 have:j=0:=by simpa using hj
 subst this;exact⟨by decide,by decide⟩⟩
theorem zn3:zbx [c0]=0:=by unfold zbx;rw [if_pos ztW,if_neg (by rw [zmv];decide)]
theorem zuI:crc [49,50,51,52,53,54,55,56,57]=3421780262:=by decide +kernel
theorem ztC (w:World) (x:Ch):RowAt (w.alloc (.cells #[.string x.1,.string x.2] 46)) w.heap.size 0 [x]:=by
 refine⟨by simp,fun j hj=>?_⟩;have:j=0:=by simpa using hj
 subst this;exact zz10
theorem ze2 (w:World):
  Calls Tryz.prog 5 #[] w fun e w'=>e= .returned (.bool true)/\Below w.heap.size w w':=by
 obtain⟨g1,g2,g3,g4,g5⟩:=zmq zn3;have hge:=fun wx=>zma (zbQ [c0]) wx (by rw [g3,zmv];decide)
 rw [g1,g2]at hge;rw [zmv]at g3;have hl32:(⟨(zbQ [c0]).toArray⟩:ByteArray).size=32:=by show(zbQ [c0]).toArray.size=32;simpa using g3
 have hpu:=fun ao c wx h=>zr8 ao c [c0] wx h zrh
 rw [zn3]at hpu;have hsu:=fun wx=>zfG ⟨#[49,50,51,52,53,54,55,56,57]⟩ wx (by decide)
 have hs9:crc (⟨#[49,50,51,52,53,54,55,56,57]⟩:ByteArray).data.toList=3421780262:=zuI;rw [hs9]at hsu;clear hs9 g1 g2 g3 g4 g5;generalize zbQ [c0]=P at *;go_in;go_wp2_with fail;have hrow:ListS (w.alloc (.cells #[.string ⟨#[65,98,99,100]⟩,.string ⟨#[120]⟩] 46)) (some ⟨w.heap.size,0,none⟩) [c0]:=.inr ⟨_,_,rfl,ztC w c0⟩;refine(hpu _ 1 _ hrow).mono ?_;rintro e w1 ⟨rfl,hb1⟩;have hB1:Below w.heap.size w w1:=(zzE _ _).trans (hb1.mono (by simp));clear hb1 hrow hpu;go_wp2_with fail;refine(hge _).mono ?_;rintro e w2 ⟨v,rfl,hl,hb2⟩;have hB2:=hB1.trans (hb2.mono hB1.size);obtain⟨ao,c,rfl,hls⟩:=zh0 hl;obtain⟨b,off,rfl,hr⟩:=hls.row (k:=0) (by decide);have h0:w2.cell? ⟨b,off,none⟩=some (.string ⟨#[65,98,99,100]⟩):=(hr.2 0 (by decide)).1;have h1:w2.cell? ⟨b,off+1,none⟩=some (.string ⟨#[120]⟩):=(hr.2 0 (by decide)).2;clear hb2 hge hl hls hr;go_wp2_with fail;refine(hsu _).mono ?_;rintro e w3 ⟨rfl,hb3⟩;have hB3:=hB2.trans (hb3.mono hB2.size);go_wp2;go_ret;exact⟨rfl,hB3⟩
structure GIs (X Z:Nat) (xc rc:Array Value) (W0 wx:World):Prop where
 xb:wx.heap[X]?=some (.cells xc 36 (0,0))
 rb:wx.heap[Z]?=some (.cells rc 148 (0,0))
 bel:Below W0.heap.size W0 wx
theorem GIs.below {X Z:Nat} {xc rc:Array Value} {W0 wx wy:World} (h:GIs X Z xc rc W0 wx) (hb:Below wx.heap.size wx wy):GIs X Z xc rc W0 wy:=
 ⟨(hb.block X (zc h.xb)).trans h.xb,(hb.block Z (zc h.rb)).trans h.rb,zd h.bel hb⟩
theorem zbK {w:World} {B:Nat} {T:TypeId} {v0 v1 v2 v3 v4 v5 v6 v7 v8 v9:Value} (h:w.heap[B]?=some (.cells #[v0,v1,v2,v3,v4,v5,v6,v7,v8,v9] T (0,0))):
  w.cell? ⟨B,0,none⟩=some v0/\w.cell? ⟨B,1,none⟩=some v1/\w.cell? ⟨B,2,none⟩=some v2/\w.cell? ⟨B,3,none⟩=some v3/\w.cell? ⟨B,4,none⟩=some v4/\w.cell? ⟨B,5,none⟩=some v5/\w.cell? ⟨B,6,none⟩=some v6/\w.cell? ⟨B,7,none⟩=some v7/\w.cell? ⟨B,8,none⟩=some v8/\w.cell? ⟨B,9,none⟩=some v9:=by
 have hc:=fun j=>zzq2 w B j _ _ _ h
 exact⟨hc 0,hc 1,hc 2,hc 3,hc 4,hc 5,hc 6,hc 7,hc 8,hc 9⟩
theorem zpT {l:List RArg} {k:Nat} (h:k<l.length):zcV (l.drop k)=zbG l[k]++zcV (l.drop (k+1)):=by
 unfold zcV;rw [List.drop_eq_getElem_cons h];rfl
theorem zlR {l:List RCase} {k:Nat} (h:k<l.length):zba (l.drop k)=(zf l[k].lit.toNat++zf l[k].to.toNat)++zba (l.drop (k+1)):=by
 unfold zba;rw [List.drop_eq_getElem_cons h];rfl
theorem znD {l:List RSeg} {k:Nat} (h:k<l.length):zX (l.drop k)=(zf l[k].type.toNat++(zbG l[k].val++(zbG l[k].size++zde l[k].little)))++zX (l.drop (k+1)):=by
 unfold zX;rw [List.drop_eq_getElem_cons h];rfl
theorem zkk (x:RIns) (so co go:zzA) (sc cc gc:Nat) (w:World) (hsrc:SlAt w 2 zdY so x.src) (hcs:SlAt w 2 zdc co x.cases) (hsg:SlAt w 6 zdZ go x.segs) (hop:1<=x.op/\x.op<=40) (hw:WIns (zr x.op).1.toNat x):
  Calls Tryz.prog 44 #[.agg (zzi x so sc co cc go gc)] w fun e w'=>e= .returned (.string ⟨(zd7 (zr x.op).1.toNat x).toArray⟩)/\Below w.heap.size w w':=by
 unfold zzi;have hro:=fun wx=>ziE x.op wx
 rw [zi6 hop]at hro;simp only [RRow.val]at hro;have HW:=zzH hw;have HE:=zzH (ziP (zr x.op).1.toNat x);have hop0:=hw.op0;have hop1:=hw.op1;have hn0:=hw.n0;have hn1:=hw.n1;have hto0:=hw.to0;have hto1:=hw.to1;have hlv0:=hw.live0;have hlv1:=hw.live1;have hl1:=hw.srcLen;have hl2:=hw.casesLen;have hl3:=hw.segsLen;have hl4:=hw.name;refine zzK4 hw.dst hsrc hcs hsg fun HDST HSR0 HCA0 HSG0=>?_;clear hw hsrc hcs hsg hop;generalize zd7 (zr x.op).1.toNat x=WW at *;generalize zm (zr x.op).1.toNat 1=q1 at *;generalize zm (zr x.op).1.toNat 2=q2 at *;generalize zm (zr x.op).1.toNat 4=q4 at *;generalize zm (zr x.op).1.toNat 8=q8 at *;generalize zm (zr x.op).1.toNat 16=q16 at *;generalize zm (zr x.op).1.toNat 32=q32 at *;generalize zm (zr x.op).1.toNat 64=q64 at *;generalize zm (zr x.op).1.toNat 128=q128 at *;generalize(zr x.op).2.1=rlo at *;generalize(zr x.op).2.2=rhi at *;generalize zdi x.op=qk at *;have hxb:=zzF w (.cells #[.int .i64 x.op,.int .i64 x.dst.kind,.int .i64 x.dst.n,.slice so x.src.length sc,.int .i64 x.to,.int .i64 x.n,.int .i64 x.live,.string x.name,.slice co x.cases.length cc,.slice go x.segs.length gc] 36);have hba:Below w.heap.size w (w.alloc (.cells (zzi x so sc co cc go gc) 36)):=zzE _ _;refine zzK3 (HSR0.out.mono hba fun _ _ h=>h) (HCA0.out.mono hba fun _ _ h=>h) (HSG0.out.mono hba fun _ _ h=>h) fun HSR HCA HSG=>?_;clear HSR0 HCA0 HSG0;go_in;go_upto_region 1 with fail;generalize w.alloc (.cells (zzi x so sc co cc go gc) 36)=W0 at *;generalize hXz:w.heap.size=X at *;refine zzK3 hXz hba hxb fun HXZ HBA HXB=>?_;clear hXz hba;have HFIN:Hid (∀wx,Below W0.heap.size W0 wx->Below X w wx):=zzH (fun wx hh=>HBA.out.trans (hh.mono (by have:=HBA.out.size;have:=HXZ.out;omega)));obtain⟨c0,c1,c2,c3,c4,c5,c6,c7,c8,c9⟩:=zbK hxb;have hlx:=zc hxb;clear hxb;go_wp2_with fail;refine(hro _).mono ?_;rintro e w1 ⟨rfl,hb1⟩;have hxb1:=(hb1.block X hlx).trans HXB.out;have hr1:=zzF w1 (.cells #[.bool q1,.bool q2,.bool q4,.bool q8,.bool q16,.bool q32,.bool q64,.bool q128,.int .i64 rlo,.int .i64 rhi] 148);have hrb1:Below w1.heap.size w1 (w1.alloc (.cells #[.bool q1,.bool q2,.bool q4,.bool q8,.bool q16,.bool q32,.bool q64,.bool q128,.int .i64 rlo,.int .i64 rhi] 148)):=zzE _ _;have HS:Hid (GIs X w1.heap.size #[.int .i64 x.op,.int .i64 x.dst.kind,.int .i64 x.dst.n,.slice so x.src.length sc,.int .i64 x.to,.int .i64 x.n,.int .i64 x.live,.string x.name,.slice co x.cases.length cc,.slice go x.segs.length gc] #[.bool q1,.bool q2,.bool q4,.bool q8,.bool q16,.bool q32,.bool q64,.bool q128,.int .i64 rlo,.int .i64 rhi] W0 (w1.alloc (.cells #[.bool q1,.bool q2,.bool q4,.bool q8,.bool q16,.bool q32,.bool q64,.bool q128,.int .i64 rlo,.int .i64 rhi] 148))):=zzH ⟨(hrb1.block X (zc hxb1)).trans hxb1,hr1,zd hb1 hrb1⟩;clear hb1 hxb1 hr1 hrb1 hro c0 c1 c2 c3 c4 c5 c6 c7 c8 c9 hlx HXB;go_upto_region 2 with fail;generalize w1.alloc (.cells #[.bool q1,.bool q2,.bool q4,.bool q8,.bool q16,.bool q32,.bool q64,.bool q128,.int .i64 rlo,.int .i64 rhi] 148)=W1 at *;generalize w1.heap.size=Z at *;obtain⟨c0,c1,c2,c3,c4,c5,c6,c7,c8,c9⟩:=zbK HS.out.xb;obtain⟨r0,r1,r2,r3,r4,r5,r6,r7,r8,r9⟩:=zbK HS.out.rb;have hlx:=zc HS.out.xb;have hlz:=zc HS.out.rb;have h0:=fun wx=>zbD x.op wx hop0 (by omega)
 have hvl:=zv x.op.toNat;go_wp2_with fail;refine(h0 _).mono ?_;rintro e w2 ⟨rfl,hb⟩;have HV:Hid (WW=zf x.op.toNat++(opt q1 (zbG x.dst)++(opt q2 (zf x.src.length++zcV x.src)++(opt q4 (zf x.n.toNat)++(opt q8 (zD x.name)++(opt q16 (zf x.cases.length++zba x.cases)++(opt q32 (zf x.segs.length++zX x.segs)++(opt q64 (zf x.to.toNat)++(opt q128 (zf x.live.toNat)++([]:List UInt8)))))))))):=zzH HE.out;have hp:(zf x.op.toNat).length<=10:=hvl;have HS:=zzH (HS.out.below hb);clear hb h0 hvl HE;generalize zf x.op.toNat=p at *;clear c0 c1 c2 c3 c4 c5 c6 c7 c8 c9 r0 r1 r2 r3 r4 r5 r6 r7 r8 r9 hlx hlz;obtain⟨c0,c1,c2,c3,c4,c5,c6,c7,c8,c9⟩:=zbK HS.out.xb;obtain⟨r0,r1,r2,r3,r4,r5,r6,r7,r8,r9⟩:=zbK HS.out.rb;have hlx:=zc HS.out.xb;have hlz:=zc HS.out.rb;go_upto_if 20 with fail;go_cut [5] (fun s wx=> ∃p:List UInt8,s= .string ⟨p.toArray⟩/\Hid (WW=p++(opt q2 (zf x.src.length++zcV x.src)++(opt q4 (zf x.n.toNat)++(opt q8 (zD x.name)++(opt q16 (zf x.cases.length++zba x.cases)++(opt q32 (zf x.segs.length++zX x.segs)++(opt q64 (zf x.to.toNat)++(opt q128 (zf x.live.toNat)++([]:List UInt8)))))))))/\p.length<=20/\Hid (GIs X Z #[.int .i64 x.op,.int .i64 x.dst.kind,.int .i64 x.dst.n,.slice so x.src.length sc,.int .i64 x.to,.int .i64 x.n,.int .i64 x.live,.string x.name,.slice co x.cases.length cc,.slice go x.segs.length gc] #[.bool q1,.bool q2,.bool q4,.bool q8,.bool q16,.bool q32,.bool q64,.bool q128,.int .i64 rlo,.int .i64 rhi] W0 wx))
 case first=>
  cases q1 with
  |false=>
   have HV2:Hid (WW=p++(opt q2 (zf x.src.length++zcV x.src)++(opt q4 (zf x.n.toNat)++(opt q8 (zD x.name)++(opt q16 (zf x.cases.length++zba x.cases)++(opt q32 (zf x.segs.length++zX x.segs)++(opt q64 (zf x.to.toNat)++(opt q128 (zf x.live.toNat)++([]:List UInt8))))))))):=zzH HV.out;exact zz163
  |true=>
   have hA:=zcW x.dst;have hadd:=fun wx=>run_string_add_sum (P:=Tryz.prog) wx ⟨p.toArray⟩ ⟨(zbG x.dst).toArray⟩ (by rw [bsz,bsz];omega)
   go_wp2_with fail;refine(zfF x.dst _ (HDST.out (by trivial))).mono ?_;rintro e w11 ⟨rfl,hb⟩;have HS:=zzH (HS.out.below hb);clear hb;have HV2:Hid (WW=(p++zbG x.dst)++(opt q2 (zf x.src.length++zcV x.src)++(opt q4 (zf x.n.toNat)++(opt q8 (zD x.name)++(opt q16 (zf x.cases.length++zba x.cases)++(opt q32 (zf x.segs.length++zX x.segs)++(opt q64 (zf x.to.toNat)++(opt q128 (zf x.live.toNat)++([]:List UInt8))))))))):=zzH (by rw [HV.out,zzq4];rfl);clear c0 c1 c2 c3 c4 c5 c6 c7 c8 c9 r0 r1 r2 r3 r4 r5 r6 r7 r8 r9 hlx hlz;go_wp2_with fail;go_meet
   case rel=>exact⟨p++zbG x.dst,congrArg Value.string (zB _ _),HV2,by rw [zzq1];omega,HS⟩
 case rest=>
  obtain⟨p,rfl,HV,hp,HS⟩:=hcut;clear c0 c1 c2 c3 c4 c5 c6 c7 c8 c9 r0 r1 r2 r3 r4 r5 r6 r7 r8 r9 hlx hlz;obtain⟨c0,c1,c2,c3,c4,c5,c6,c7,c8,c9⟩:=zbK HS.out.xb;obtain⟨r0,r1,r2,r3,r4,r5,r6,r7,r8,r9⟩:=zbK HS.out.rb;have hlx:=zc HS.out.xb;have hlz:=zc HS.out.rb;go_upto_if 27 with fail;go_cut [5] (fun s wx=> ∃p:List UInt8,s= .string ⟨p.toArray⟩/\Hid (WW=p++(opt q4 (zf x.n.toNat)++(opt q8 (zD x.name)++(opt q16 (zf x.cases.length++zba x.cases)++(opt q32 (zf x.segs.length++zX x.segs)++(opt q64 (zf x.to.toNat)++(opt q128 (zf x.live.toNat)++([]:List UInt8))))))))/\p.length<=11000/\Hid (GIs X Z #[.int .i64 x.op,.int .i64 x.dst.kind,.int .i64 x.dst.n,.slice so x.src.length sc,.int .i64 x.to,.int .i64 x.n,.int .i64 x.live,.string x.name,.slice co x.cases.length cc,.slice go x.segs.length gc] #[.bool q1,.bool q2,.bool q4,.bool q8,.bool q16,.bool q32,.bool q64,.bool q128,.int .i64 rlo,.int .i64 rhi] W0 wx))
  case first=>
   cases q2 with
   |false=>
    have HV2:Hid (WW=p++(opt q4 (zf x.n.toNat)++(opt q8 (zD x.name)++(opt q16 (zf x.cases.length++zba x.cases)++(opt q32 (zf x.segs.length++zX x.segs)++(opt q64 (zf x.to.toNat)++(opt q128 (zf x.live.toNat)++([]:List UInt8)))))))):=zzH HV.out;exact zz163
   |true=>
    have hA:=zv x.src.length;have hadd:=fun wx=>run_string_add_sum (P:=Tryz.prog) wx ⟨p.toArray⟩ ⟨(zf x.src.length).toArray⟩ (by rw [bsz,bsz];omega)
    go_wp2_with fail;refine(zcK 9 x.src.length _ (by omega) (by omega)).mono ?_;rintro e w12 ⟨rfl,hb⟩;have HS:=zzH (HS.out.below hb);clear hb;have HV2:Hid (WW=(p++zf x.src.length)++(zcV (x.src.drop 0)++(opt q4 (zf x.n.toNat)++(opt q8 (zD x.name)++(opt q16 (zf x.cases.length++zba x.cases)++(opt q32 (zf x.segs.length++zX x.segs)++(opt q64 (zf x.to.toNat)++(opt q128 (zf x.live.toNat)++([]:List UInt8))))))))):=zzH (by rw [HV.out,zzq4];show p++((zf x.src.length++zcV x.src)++_)=_;rw [zzq4];rfl);clear c0 c1 c2 c3 c4 c5 c6 c7 c8 c9 r0 r1 r2 r3 r4 r5 r6 r7 r8 r9 hlx hlz;obtain⟨c0,c1,c2,c3,c4,c5,c6,c7,c8,c9⟩:=zbK HS.out.xb;obtain⟨r0,r1,r2,r3,r4,r5,r6,r7,r8,r9⟩:=zbK HS.out.rb;have hlx:=zc HS.out.xb;have hlz:=zc HS.out.rb;go_wp2_with fail;go_loopw [5,6] (fun s iv wr=> ∃(k:Nat) (p2:List UInt8),k<=x.src.length/\iv= .int .i64 k/\s= .string ⟨p2.toArray⟩/\Hid (WW=p2++(zcV (x.src.drop k)++(opt q4 (zf x.n.toNat)++(opt q8 (zD x.name)++(opt q16 (zf x.cases.length++zba x.cases)++(opt q32 (zf x.segs.length++zX x.segs)++(opt q64 (zf x.to.toNat)++(opt q128 (zf x.live.toNat)++([]:List UInt8)))))))))/\p2.length<=30+10*k/\Hid (GIs X Z #[.int .i64 x.op,.int .i64 x.dst.kind,.int .i64 x.dst.n,.slice so x.src.length sc,.int .i64 x.to,.int .i64 x.n,.int .i64 x.live,.string x.name,.slice co x.cases.length cc,.slice go x.segs.length gc] #[.bool q1,.bool true,.bool q4,.bool q8,.bool q16,.bool q32,.bool q64,.bool q128,.int .i64 rlo,.int .i64 rhi] W0 wr)) (fun s iv wr=>x.src.length-(intOf iv).toNat)
    case atStart=>exact⟨0,p++zf x.src.length,zzZ _,rfl,congrArg Value.string (zB _ _),HV2,by rw [zzq1];omega,HS⟩
    case round=>
     obtain⟨k,p2,hk,rfl,rfl,HV3,hp2,HS⟩:=hrel;rename World=>wr
     clear hadd;clear c0 c1 c2 c3 c4 c5 c6 c7 c8 c9 r0 r1 r2 r3 r4 r5 r6 r7 r8 r9 hlx hlz;obtain⟨c0,c1,c2,c3,c4,c5,c6,c7,c8,c9⟩:=zbK HS.out.xb;obtain⟨r0,r1,r2,r3,r4,r5,r6,r7,r8,r9⟩:=zbK HS.out.rb;have hlx:=zc HS.out.xb;have hlz:=zc HS.out.rb;by_cases hlt:k<x.src.length
     ·obtain⟨b1,off1,hao,hb1,s0,s1,t0,t1⟩:=(HSR.out.mono HS.out.bel fun _ _ h=>h).arg hlt
      subst hao;have hwa:=HW.out.src _ (zzM hlt);have HC:=zzH (fun wx=>zfF x.src[k] wx hwa);have HV4:Hid (WW=(p2++zbG x.src[k])++(zcV (x.src.drop (k+1))++(opt q4 (zf x.n.toNat)++(opt q8 (zD x.name)++(opt q16 (zf x.cases.length++zba x.cases)++(opt q32 (zf x.segs.length++zX x.segs)++(opt q64 (zf x.to.toNat)++(opt q128 (zf x.live.toNat)++([]:List UInt8))))))))):=zzH (by rw [HV3.out,zpT hlt];simp only [zzq4]);have hA2:=zcW x.src[k];clear hwa t0 t1;generalize zbG x.src[k]=A at *;generalize x.src[k]=u at *;have hadd:=fun wx=>run_string_add_sum (P:=Tryz.prog) wx ⟨p2.toArray⟩ ⟨A.toArray⟩ (by rw [bsz,bsz];omega)
      go_wp2_with fail;refine(HC.out _).mono ?_;rintro e w13 ⟨rfl,hb⟩;have HS:=zzH (HS.out.below hb);clear hb c0 c1 c2 c3 c4 c5 c6 c7 c8 c9 r0 r1 r2 r3 r4 r5 r6 r7 r8 r9 hlx hlz;go_wp2_with fail;go_roundw
      case rel=>exact⟨k+1,p2++A,by omega,by go_num,congrArg Value.string (zB _ _),HV4,by rw [zzq1];omega,HS⟩
      case measure=>simp [intOf];omega
     ·have HV4:Hid (WW=p2++(opt q4 (zf x.n.toNat)++(opt q8 (zD x.name)++(opt q16 (zf x.cases.length++zba x.cases)++(opt q32 (zf x.segs.length++zX x.segs)++(opt q64 (zf x.to.toNat)++(opt q128 (zf x.live.toNat)++([]:List UInt8)))))))):=zzH (by rw [HV3.out,zzq8 (by omega)];rfl)
      exact zz162
  case rest=>
   obtain⟨p,rfl,HV,hp,HS⟩:=hcut;clear c0 c1 c2 c3 c4 c5 c6 c7 c8 c9 r0 r1 r2 r3 r4 r5 r6 r7 r8 r9 hlx hlz;obtain⟨c0,c1,c2,c3,c4,c5,c6,c7,c8,c9⟩:=zbK HS.out.xb;obtain⟨r0,r1,r2,r3,r4,r5,r6,r7,r8,r9⟩:=zbK HS.out.rb;have hlx:=zc HS.out.xb;have hlz:=zc HS.out.rb;go_upto_if 50 with fail;go_cut [5] (fun s wx=> ∃p:List UInt8,s= .string ⟨p.toArray⟩/\Hid (WW=p++(opt q8 (zD x.name)++(opt q16 (zf x.cases.length++zba x.cases)++(opt q32 (zf x.segs.length++zX x.segs)++(opt q64 (zf x.to.toNat)++(opt q128 (zf x.live.toNat)++([]:List UInt8)))))))/\p.length<=11010/\Hid (GIs X Z #[.int .i64 x.op,.int .i64 x.dst.kind,.int .i64 x.dst.n,.slice so x.src.length sc,.int .i64 x.to,.int .i64 x.n,.int .i64 x.live,.string x.name,.slice co x.cases.length cc,.slice go x.segs.length gc] #[.bool q1,.bool q2,.bool q4,.bool q8,.bool q16,.bool q32,.bool q64,.bool q128,.int .i64 rlo,.int .i64 rhi] W0 wx))
   case first=>
    cases q4 with
    |false=>
     have HV2:Hid (WW=p++(opt q8 (zD x.name)++(opt q16 (zf x.cases.length++zba x.cases)++(opt q32 (zf x.segs.length++zX x.segs)++(opt q64 (zf x.to.toNat)++(opt q128 (zf x.live.toNat)++([]:List UInt8))))))):=zzH HV.out;exact zz163
    |true=>
     have hA:=zv x.n.toNat;have hadd:=fun wx=>run_string_add_sum (P:=Tryz.prog) wx ⟨p.toArray⟩ ⟨(zf x.n.toNat).toArray⟩ (by rw [bsz,bsz];omega)
     go_wp2_with fail;refine(zbD x.n _ hn0 (by omega)).mono ?_;rintro e w14 ⟨rfl,hb⟩;have HS:=zzH (HS.out.below hb);clear hb;have HV2:Hid (WW=(p++zf x.n.toNat)++(opt q8 (zD x.name)++(opt q16 (zf x.cases.length++zba x.cases)++(opt q32 (zf x.segs.length++zX x.segs)++(opt q64 (zf x.to.toNat)++(opt q128 (zf x.live.toNat)++([]:List UInt8))))))):=zzH (by rw [HV.out,zzq4];rfl);clear c0 c1 c2 c3 c4 c5 c6 c7 c8 c9 r0 r1 r2 r3 r4 r5 r6 r7 r8 r9 hlx hlz;go_wp2_with fail;go_meet
     case rel=>exact⟨p++zf x.n.toNat,congrArg Value.string (zB _ _),HV2,by rw [zzq1];omega,HS⟩
   case rest=>
    obtain⟨p,rfl,HV,hp,HS⟩:=hcut;clear c0 c1 c2 c3 c4 c5 c6 c7 c8 c9 r0 r1 r2 r3 r4 r5 r6 r7 r8 r9 hlx hlz;obtain⟨c0,c1,c2,c3,c4,c5,c6,c7,c8,c9⟩:=zbK HS.out.xb;obtain⟨r0,r1,r2,r3,r4,r5,r6,r7,r8,r9⟩:=zbK HS.out.rb;have hlx:=zc HS.out.xb;have hlz:=zc HS.out.rb;go_upto_if 57 with fail;go_cut [5] (fun s wx=> ∃p:List UInt8,s= .string ⟨p.toArray⟩/\Hid (WW=p++(opt q16 (zf x.cases.length++zba x.cases)++(opt q32 (zf x.segs.length++zX x.segs)++(opt q64 (zf x.to.toNat)++(opt q128 (zf x.live.toNat)++([]:List UInt8))))))/\p.length<=13000/\Hid (GIs X Z #[.int .i64 x.op,.int .i64 x.dst.kind,.int .i64 x.dst.n,.slice so x.src.length sc,.int .i64 x.to,.int .i64 x.n,.int .i64 x.live,.string x.name,.slice co x.cases.length cc,.slice go x.segs.length gc] #[.bool q1,.bool q2,.bool q4,.bool q8,.bool q16,.bool q32,.bool q64,.bool q128,.int .i64 rlo,.int .i64 rhi] W0 wx))
    case first=>
     cases q8 with
     |false=>
      have HV2:Hid (WW=p++(opt q16 (zf x.cases.length++zba x.cases)++(opt q32 (zf x.segs.length++zX x.segs)++(opt q64 (zf x.to.toNat)++(opt q128 (zf x.live.toNat)++([]:List UInt8)))))):=zzH HV.out;exact zz163
     |true=>
      have hA:=zcC x.name;have hadd:=fun wx=>run_string_add_sum (P:=Tryz.prog) wx ⟨p.toArray⟩ ⟨(zD x.name).toArray⟩ (by rw [bsz,bsz];omega)
      go_wp2_with fail;refine(zfm x.name _ (by omega)).mono ?_;rintro e w15 ⟨rfl,hb⟩;have HS:=zzH (HS.out.below hb);clear hb;have HV2:Hid (WW=(p++zD x.name)++(opt q16 (zf x.cases.length++zba x.cases)++(opt q32 (zf x.segs.length++zX x.segs)++(opt q64 (zf x.to.toNat)++(opt q128 (zf x.live.toNat)++([]:List UInt8)))))):=zzH (by rw [HV.out,zzq4];rfl);clear c0 c1 c2 c3 c4 c5 c6 c7 c8 c9 r0 r1 r2 r3 r4 r5 r6 r7 r8 r9 hlx hlz;go_wp2_with fail;go_meet
      case rel=>exact⟨p++zD x.name,congrArg Value.string (zB _ _),HV2,by rw [zzq1];omega,HS⟩
    case rest=>
     obtain⟨p,rfl,HV,hp,HS⟩:=hcut;clear c0 c1 c2 c3 c4 c5 c6 c7 c8 c9 r0 r1 r2 r3 r4 r5 r6 r7 r8 r9 hlx hlz;obtain⟨c0,c1,c2,c3,c4,c5,c6,c7,c8,c9⟩:=zbK HS.out.xb;obtain⟨r0,r1,r2,r3,r4,r5,r6,r7,r8,r9⟩:=zbK HS.out.rb;have hlx:=zc HS.out.xb;have hlz:=zc HS.out.rb;go_upto_if 64 with fail;go_cut [5] (fun s wx=> ∃p:List UInt8,s= .string ⟨p.toArray⟩/\Hid (WW=p++(opt q32 (zf x.segs.length++zX x.segs)++(opt q64 (zf x.to.toNat)++(opt q128 (zf x.live.toNat)++([]:List UInt8)))))/\p.length<=34000/\Hid (GIs X Z #[.int .i64 x.op,.int .i64 x.dst.kind,.int .i64 x.dst.n,.slice so x.src.length sc,.int .i64 x.to,.int .i64 x.n,.int .i64 x.live,.string x.name,.slice co x.cases.length cc,.slice go x.segs.length gc] #[.bool q1,.bool q2,.bool q4,.bool q8,.bool q16,.bool q32,.bool q64,.bool q128,.int .i64 rlo,.int .i64 rhi] W0 wx))
     case first=>
      cases q16 with
      |false=>
       have HV2:Hid (WW=p++(opt q32 (zf x.segs.length++zX x.segs)++(opt q64 (zf x.to.toNat)++(opt q128 (zf x.live.toNat)++([]:List UInt8))))):=zzH HV.out;exact zz163
      |true=>
       have hA:=zv x.cases.length;have hadd:=fun wx=>run_string_add_sum (P:=Tryz.prog) wx ⟨p.toArray⟩ ⟨(zf x.cases.length).toArray⟩ (by rw [bsz,bsz];omega)
       go_wp2_with fail;refine(zcK 9 x.cases.length _ (by omega) (by omega)).mono ?_;rintro e w16 ⟨rfl,hb⟩;have HS:=zzH (HS.out.below hb);clear hb;have HV2:Hid (WW=(p++zf x.cases.length)++(zba (x.cases.drop 0)++(opt q32 (zf x.segs.length++zX x.segs)++(opt q64 (zf x.to.toNat)++(opt q128 (zf x.live.toNat)++([]:List UInt8)))))):=zzH (by rw [HV.out,zzq4];show p++((zf x.cases.length++zba x.cases)++_)=_;rw [zzq4];rfl);clear c0 c1 c2 c3 c4 c5 c6 c7 c8 c9 r0 r1 r2 r3 r4 r5 r6 r7 r8 r9 hlx hlz;obtain⟨c0,c1,c2,c3,c4,c5,c6,c7,c8,c9⟩:=zbK HS.out.xb;obtain⟨r0,r1,r2,r3,r4,r5,r6,r7,r8,r9⟩:=zbK HS.out.rb;have hlx:=zc HS.out.xb;have hlz:=zc HS.out.rb;go_wp2_with fail;go_loopw [5,7] (fun s iv wr=> ∃(k:Nat) (p2:List UInt8),k<=x.cases.length/\iv= .int .i64 k/\s= .string ⟨p2.toArray⟩/\Hid (WW=p2++(zba (x.cases.drop k)++(opt q32 (zf x.segs.length++zX x.segs)++(opt q64 (zf x.to.toNat)++(opt q128 (zf x.live.toNat)++([]:List UInt8))))))/\p2.length<=13010+20*k/\Hid (GIs X Z #[.int .i64 x.op,.int .i64 x.dst.kind,.int .i64 x.dst.n,.slice so x.src.length sc,.int .i64 x.to,.int .i64 x.n,.int .i64 x.live,.string x.name,.slice co x.cases.length cc,.slice go x.segs.length gc] #[.bool q1,.bool q2,.bool q4,.bool q8,.bool true,.bool q32,.bool q64,.bool q128,.int .i64 rlo,.int .i64 rhi] W0 wr)) (fun s iv wr=>x.cases.length-(intOf iv).toNat)
       case atStart=>exact⟨0,p++zf x.cases.length,zzZ _,rfl,congrArg Value.string (zB _ _),HV2,by rw [zzq1];omega,HS⟩
       case round=>
        obtain⟨k,p2,hk,rfl,rfl,HV3,hp2,HS⟩:=hrel;rename World=>wr
        clear hadd;clear c0 c1 c2 c3 c4 c5 c6 c7 c8 c9 r0 r1 r2 r3 r4 r5 r6 r7 r8 r9 hlx hlz;obtain⟨c0,c1,c2,c3,c4,c5,c6,c7,c8,c9⟩:=zbK HS.out.xb;obtain⟨r0,r1,r2,r3,r4,r5,r6,r7,r8,r9⟩:=zbK HS.out.rb;have hlx:=zc HS.out.xb;have hlz:=zc HS.out.rb;by_cases hlt:k<x.cases.length
        ·obtain⟨b1,off1,hao,hb1,s0,s1,t0,t1⟩:=(HCA.out.mono HS.out.bel fun _ _ h=>h).case hlt
         subst hao;obtain⟨z0,z1,z2,z3⟩:=HW.out.cases _ (zzM hlt);have h1:=fun wx=>zbD x.cases[k].lit wx z0 (by omega)
         have h2:=fun wx=>zbD x.cases[k].to wx z2 (by omega)
         have HV4:Hid (WW=((p2++zf x.cases[k].lit.toNat)++zf x.cases[k].to.toNat)++(zba (x.cases.drop (k+1))++(opt q32 (zf x.segs.length++zX x.segs)++(opt q64 (zf x.to.toNat)++(opt q128 (zf x.live.toNat)++([]:List UInt8)))))):=zzH (by rw [HV3.out,zlR hlt];simp only [zzq4]);have hA1:=zv x.cases[k].lit.toNat;have hA2:=zv x.cases[k].to.toNat;clear z0 z1 z2 z3 t0 t1;generalize zf x.cases[k].lit.toNat=A1 at *;generalize zf x.cases[k].to.toNat=A2 at *;generalize x.cases[k].lit=u1 at *;generalize x.cases[k].to=u2 at *;have hadd:=fun wx=>run_string_add_sum (P:=Tryz.prog) wx ⟨p2.toArray⟩ ⟨A1.toArray⟩ (by rw [bsz,bsz];omega)
         have hadd2:=fun wx=>run_string_add_sum (P:=Tryz.prog) wx (⟨p2.toArray⟩++⟨A1.toArray⟩) ⟨A2.toArray⟩ (by rw [zB,bsz,bsz,zzq1];omega)
         have HBr:=zzH ((zzR wr.heap.size wr).drew);have HKr:=zzH (zY HBr.out);have hk0:(0:Int)<=(k:Int):=by omega
         have hk1:(k:Int)<(x.cases.length:Int):=by omega
         go_wp2_with fail
         first|go_region_held3 (fun w'=>wr.heap.size<=w'.heap.size/\ ∀b o,b<wr.heap.size->w'.cell? ⟨b,o,none⟩=wr.cell? ⟨b,o,none⟩) (with_reducible exact HKr.out)
          ((go_at_call 41;(first|(with_reducible refine(h1 _).mono ?_)|(with_reducible refine(h2 _).mono ?_));rintro e w9 ⟨rfl,hb⟩;have HBr:=zzH (zd HBr.out hb);have HKr:=zzH (zY HBr.out);clear hb))|fail
         all_goals
          have HS:=zzH (HS.out.below HBr.out);clear c0 c1 c2 c3 c4 c5 c6 c7 c8 c9 r0 r1 r2 r3 r4 r5 r6 r7 r8 r9 hlx hlz;go_wp2_with fail;go_roundw
          case rel=>exact⟨k+1,(p2++A1)++A2,by omega,by go_num,congrArg Value.string (by rw [zB,zB]),HV4,by rw [zzq1,zzq1];omega,HS⟩
          case measure=>simp [intOf];omega
        ·have HV4:Hid (WW=p2++(opt q32 (zf x.segs.length++zX x.segs)++(opt q64 (zf x.to.toNat)++(opt q128 (zf x.live.toNat)++([]:List UInt8))))):=zzH (by rw [HV3.out,zzq8 (by omega)];rfl)
         exact zz162
     case rest=>
      obtain⟨p,rfl,HV,hp,HS⟩:=hcut;clear c0 c1 c2 c3 c4 c5 c6 c7 c8 c9 r0 r1 r2 r3 r4 r5 r6 r7 r8 r9 hlx hlz;obtain⟨c0,c1,c2,c3,c4,c5,c6,c7,c8,c9⟩:=zbK HS.out.xb;obtain⟨r0,r1,r2,r3,r4,r5,r6,r7,r8,r9⟩:=zbK HS.out.rb;have hlx:=zc HS.out.xb;have hlz:=zc HS.out.rb;go_upto_if 96 with fail;go_cut [5] (fun s wx=> ∃p:List UInt8,s= .string ⟨p.toArray⟩/\Hid (WW=p++(opt q64 (zf x.to.toNat)++(opt q128 (zf x.live.toNat)++([]:List UInt8))))/\p.length<=76000/\Hid (GIs X Z #[.int .i64 x.op,.int .i64 x.dst.kind,.int .i64 x.dst.n,.slice so x.src.length sc,.int .i64 x.to,.int .i64 x.n,.int .i64 x.live,.string x.name,.slice co x.cases.length cc,.slice go x.segs.length gc] #[.bool q1,.bool q2,.bool q4,.bool q8,.bool q16,.bool q32,.bool q64,.bool q128,.int .i64 rlo,.int .i64 rhi] W0 wx))
      case first=>
       cases q32 with
       |false=>
        have HV2:Hid (WW=p++(opt q64 (zf x.to.toNat)++(opt q128 (zf x.live.toNat)++([]:List UInt8)))):=zzH HV.out;exact zz163
       |true=>
        have hA:=zv x.segs.length;have hadd:=fun wx=>run_string_add_sum (P:=Tryz.prog) wx ⟨p.toArray⟩ ⟨(zf x.segs.length).toArray⟩ (by rw [bsz,bsz];omega)
        go_wp2_with fail;refine(zcK 9 x.segs.length _ (by omega) (by omega)).mono ?_;rintro e w17 ⟨rfl,hb⟩;have HS:=zzH (HS.out.below hb);clear hb;have HV2:Hid (WW=(p++zf x.segs.length)++(zX (x.segs.drop 0)++(opt q64 (zf x.to.toNat)++(opt q128 (zf x.live.toNat)++([]:List UInt8))))):=zzH (by rw [HV.out,zzq4];show p++((zf x.segs.length++zX x.segs)++_)=_;rw [zzq4];rfl);clear c0 c1 c2 c3 c4 c5 c6 c7 c8 c9 r0 r1 r2 r3 r4 r5 r6 r7 r8 r9 hlx hlz;obtain⟨c0,c1,c2,c3,c4,c5,c6,c7,c8,c9⟩:=zbK HS.out.xb;obtain⟨r0,r1,r2,r3,r4,r5,r6,r7,r8,r9⟩:=zbK HS.out.rb;have hlx:=zc HS.out.xb;have hlz:=zc HS.out.rb;go_wp2_with fail;go_loopw [5,8,9] (fun s iv _ wr=> ∃(k:Nat) (p2:List UInt8),k<=x.segs.length/\iv= .int .i64 k/\s= .string ⟨p2.toArray⟩/\Hid (WW=p2++(zX (x.segs.drop k)++(opt q64 (zf x.to.toNat)++(opt q128 (zf x.live.toNat)++([]:List UInt8)))))/\p2.length<=34010+40*k/\Hid (GIs X Z #[.int .i64 x.op,.int .i64 x.dst.kind,.int .i64 x.dst.n,.slice so x.src.length sc,.int .i64 x.to,.int .i64 x.n,.int .i64 x.live,.string x.name,.slice co x.cases.length cc,.slice go x.segs.length gc] #[.bool q1,.bool q2,.bool q4,.bool q8,.bool q16,.bool true,.bool q64,.bool q128,.int .i64 rlo,.int .i64 rhi] W0 wr)) (fun s iv _ wr=>x.segs.length-(intOf iv).toNat)
        case atStart=>exact⟨0,p++zf x.segs.length,zzZ _,rfl,congrArg Value.string (zB _ _),HV2,by rw [zzq1];omega,HS⟩
        case round=>
         obtain⟨k,p2,hk,rfl,rfl,HV3,hp2,HS⟩:=hrel;rename World=>wr
         clear hadd;clear c0 c1 c2 c3 c4 c5 c6 c7 c8 c9 r0 r1 r2 r3 r4 r5 r6 r7 r8 r9 hlx hlz;obtain⟨c0,c1,c2,c3,c4,c5,c6,c7,c8,c9⟩:=zbK HS.out.xb;obtain⟨r0,r1,r2,r3,r4,r5,r6,r7,r8,r9⟩:=zbK HS.out.rb;have hlx:=zc HS.out.xb;have hlz:=zc HS.out.rb;by_cases hlt:k<x.segs.length
         ·obtain⟨b1,off1,hao,hb1,s0,s1,s2,s3,s4,s5,t0,t1,t2,t3,t4⟩:=(HSG.out.mono HS.out.bel fun _ _ h=>h).seg hlt
          subst hao;obtain⟨z0,z1,z2,z3⟩:=HW.out.segs _ (zzM hlt);have h1:=fun wx=>zbD x.segs[k].type wx z0 (by omega)
          have h2:=fun wx=>zfF x.segs[k].val wx z2
          have h3:=fun wx=>zfF x.segs[k].size wx z3
          have h4:=fun wx=>zie x.segs[k].little wx
          have HV4:Hid (WW=((((p2++zf x.segs[k].type.toNat)++zbG x.segs[k].val)++zbG x.segs[k].size)++zde x.segs[k].little)++(zX (x.segs.drop (k+1))++(opt q64 (zf x.to.toNat)++(opt q128 (zf x.live.toNat)++([]:List UInt8))))):=zzH (by rw [HV3.out,znD hlt];simp only [zzq4]);have hA1:=zv x.segs[k].type.toNat;have hA2:=zcW x.segs[k].val;have hA3:=zcW x.segs[k].size;have hA4:=zeM x.segs[k].little;clear z0 z1 z2 z3 t0 t1 t2 t3 t4;generalize zf x.segs[k].type.toNat=A1 at *;generalize zbG x.segs[k].val=A2 at *;generalize zbG x.segs[k].size=A3 at *;generalize zde x.segs[k].little=A4 at *;generalize x.segs[k]=g at *;obtain⟨ty,⟨vk,vn⟩,⟨sk,sn⟩,lit⟩:=g;simp only at *;have hadd:=fun wx=>run_string_add_sum (P:=Tryz.prog) wx ⟨p2.toArray⟩ ⟨A1.toArray⟩ (by rw [bsz,bsz];omega)
          have hadd2:=fun wx=>run_string_add_sum (P:=Tryz.prog) wx (⟨p2.toArray⟩++⟨A1.toArray⟩) ⟨A2.toArray⟩ (by rw [zB,bsz,bsz,zzq1];omega)
          have hadd3:=fun wx=>run_string_add_sum (P:=Tryz.prog) wx (⟨p2.toArray⟩++⟨A1.toArray⟩++⟨A2.toArray⟩) ⟨A3.toArray⟩ (by rw [zB,zB,bsz,bsz,zzq1,zzq1];omega)
          have hadd4:=fun wx=>run_string_add_sum (P:=Tryz.prog) wx (⟨p2.toArray⟩++⟨A1.toArray⟩++⟨A2.toArray⟩++⟨A3.toArray⟩) ⟨A4.toArray⟩ (by rw [zB,zB,zB,bsz,bsz,zzq1,zzq1,zzq1];omega)
          have hbx:Below wr.heap.size wr (wr.alloc (.cells #[.int .i64 ty,.int .i64 vk,.int .i64 vn,.int .i64 sk,.int .i64 sn,.bool lit] 121)):=zzE _ _;have hbr:=zzF wr (.cells #[.int .i64 ty,.int .i64 vk,.int .i64 vn,.int .i64 sk,.int .i64 sn,.bool lit] 121);have HS:=zzH (HS.out.below hbx);clear hbx;go_upto_region 27 with fail;clear c0 c1 c2 c3 c4 c5 c6 c7 c8 c9 r0 r1 r2 r3 r4 r5 r6 r7 r8 r9 hlx hlz s0 s1 s2 s3 s4 s5;generalize wr.alloc (.cells #[.int .i64 ty,.int .i64 vk,.int .i64 vn,.int .i64 sk,.int .i64 sn,.bool lit] 121)=Wg at *;generalize wr.heap.size=G at *;obtain⟨g0,g1,g2,g3,g4,g5⟩:=zc4 hbr;have hlg:=zc hbr;clear hbr;have HBr:=zzH ((zzR Wg.heap.size Wg).drew);have HKr:=zzH (zY HBr.out)
          first|go_region_held3 (fun w'=>Wg.heap.size<=w'.heap.size/\ ∀b o,b<Wg.heap.size->w'.cell? ⟨b,o,none⟩=Wg.cell? ⟨b,o,none⟩) (with_reducible exact HKr.out)
           (first
            |(go_at_call 41;(with_reducible refine(h1 _).mono ?_);rintro e w9 ⟨rfl,hb⟩;have HBr:=zzH (zd HBr.out hb);have HKr:=zzH (zY HBr.out);clear hb)
            |(go_at_call 89;(first|(with_reducible refine(h2 _).mono ?_)|(with_reducible refine(h3 _).mono ?_));rintro e w9 ⟨rfl,hb⟩;have HBr:=zzH (zd HBr.out hb);have HKr:=zzH (zY HBr.out);clear hb)
            |(go_at_call 43;(with_reducible refine(h4 _).mono ?_);rintro e w9 ⟨rfl,hb⟩;have HBr:=zzH (zd HBr.out hb);have HKr:=zzH (zY HBr.out);clear hb))|fail
          all_goals
           have HS:=zzH (HS.out.below HBr.out);clear g0 g1 g2 g3 g4 g5 hlg;go_wp2_with fail;go_roundw
           case rel=>exact⟨k+1,(((p2++A1)++A2)++A3)++A4,by omega,by go_num,congrArg Value.string (by rw [zB,zB,zB,zB]),HV4,by rw [zzq1,zzq1,zzq1,zzq1];omega,HS⟩
           case measure=>simp [intOf];omega
         ·have HV4:Hid (WW=p2++(opt q64 (zf x.to.toNat)++(opt q128 (zf x.live.toNat)++([]:List UInt8)))):=zzH (by rw [HV3.out,zzq8 (by omega)];rfl)
          exact zz162
      case rest=>
       obtain⟨p,rfl,HV,hp,HS⟩:=hcut;clear c0 c1 c2 c3 c4 c5 c6 c7 c8 c9 r0 r1 r2 r3 r4 r5 r6 r7 r8 r9 hlx hlz;obtain⟨c0,c1,c2,c3,c4,c5,c6,c7,c8,c9⟩:=zbK HS.out.xb;obtain⟨r0,r1,r2,r3,r4,r5,r6,r7,r8,r9⟩:=zbK HS.out.rb;have hlx:=zc HS.out.xb;have hlz:=zc HS.out.rb;go_upto_if 133 with fail;go_cut [5] (fun s wx=> ∃p:List UInt8,s= .string ⟨p.toArray⟩/\Hid (WW=p++(opt q128 (zf x.live.toNat)++([]:List UInt8)))/\p.length<=76010/\Hid (GIs X Z #[.int .i64 x.op,.int .i64 x.dst.kind,.int .i64 x.dst.n,.slice so x.src.length sc,.int .i64 x.to,.int .i64 x.n,.int .i64 x.live,.string x.name,.slice co x.cases.length cc,.slice go x.segs.length gc] #[.bool q1,.bool q2,.bool q4,.bool q8,.bool q16,.bool q32,.bool q64,.bool q128,.int .i64 rlo,.int .i64 rhi] W0 wx))
       case first=>
        cases q64 with
        |false=>
         have HV2:Hid (WW=p++(opt q128 (zf x.live.toNat)++([]:List UInt8))):=zzH HV.out;exact zz163
        |true=>
         have hA:=zv x.to.toNat;have hadd:=fun wx=>run_string_add_sum (P:=Tryz.prog) wx ⟨p.toArray⟩ ⟨(zf x.to.toNat).toArray⟩ (by rw [bsz,bsz];omega)
         go_wp2_with fail;refine(zbD x.to _ hto0 (by omega)).mono ?_;rintro e w18 ⟨rfl,hb⟩;have HS:=zzH (HS.out.below hb);clear hb;have HV2:Hid (WW=(p++zf x.to.toNat)++(opt q128 (zf x.live.toNat)++([]:List UInt8))):=zzH (by rw [HV.out,zzq4];rfl);clear c0 c1 c2 c3 c4 c5 c6 c7 c8 c9 r0 r1 r2 r3 r4 r5 r6 r7 r8 r9 hlx hlz;go_wp2_with fail;go_meet
         case rel=>exact⟨p++zf x.to.toNat,congrArg Value.string (zB _ _),HV2,by rw [zzq1];omega,HS⟩
       case rest=>
        obtain⟨p,rfl,HV,hp,HS⟩:=hcut;clear c0 c1 c2 c3 c4 c5 c6 c7 c8 c9 r0 r1 r2 r3 r4 r5 r6 r7 r8 r9 hlx hlz;obtain⟨c0,c1,c2,c3,c4,c5,c6,c7,c8,c9⟩:=zbK HS.out.xb;obtain⟨r0,r1,r2,r3,r4,r5,r6,r7,r8,r9⟩:=zbK HS.out.rb;have hlx:=zc HS.out.xb;have hlz:=zc HS.out.rb;go_upto_if 140 with fail;go_cut [5] (fun s wx=> ∃p:List UInt8,s= .string ⟨p.toArray⟩/\Hid (WW=p++([]:List UInt8))/\p.length<=76020/\Hid (GIs X Z #[.int .i64 x.op,.int .i64 x.dst.kind,.int .i64 x.dst.n,.slice so x.src.length sc,.int .i64 x.to,.int .i64 x.n,.int .i64 x.live,.string x.name,.slice co x.cases.length cc,.slice go x.segs.length gc] #[.bool q1,.bool q2,.bool q4,.bool q8,.bool q16,.bool q32,.bool q64,.bool q128,.int .i64 rlo,.int .i64 rhi] W0 wx))
        case first=>
         cases q128 with
         |false=>
          have HV2:Hid (WW=p++([]:List UInt8)):=zzH HV.out;exact zz163
         |true=>
          have hA:=zv x.live.toNat;have hadd:=fun wx=>run_string_add_sum (P:=Tryz.prog) wx ⟨p.toArray⟩ ⟨(zf x.live.toNat).toArray⟩ (by rw [bsz,bsz];omega)
          go_wp2_with fail;refine(zbD x.live _ hlv0 (by omega)).mono ?_;rintro e w19 ⟨rfl,hb⟩;have HS:=zzH (HS.out.below hb);clear hb;have HV2:Hid (WW=(p++zf x.live.toNat)++([]:List UInt8)):=zzH (by rw [HV.out,zzq4];rfl);clear c0 c1 c2 c3 c4 c5 c6 c7 c8 c9 r0 r1 r2 r3 r4 r5 r6 r7 r8 r9 hlx hlz;go_wp2_with fail;go_meet
          case rel=>exact⟨p++zf x.live.toNat,congrArg Value.string (zB _ _),HV2,by rw [zzq1];omega,HS⟩
        case rest=>
         obtain⟨p,rfl,HV,hp,HS⟩:=hcut;clear c0 c1 c2 c3 c4 c5 c6 c7 c8 c9 r0 r1 r2 r3 r4 r5 r6 r7 r8 r9 hlx hlz;obtain⟨c0,c1,c2,c3,c4,c5,c6,c7,c8,c9⟩:=zbK HS.out.xb;obtain⟨r0,r1,r2,r3,r4,r5,r6,r7,r8,r9⟩:=zbK HS.out.rb;have hlx:=zc HS.out.xb;have hlz:=zc HS.out.rb;have HV2:Hid (WW=p):=zzH (by rw [HV.out,List.append_nil]);go_wp2;go_ret;exact⟨congrArg (fun l:List UInt8=>Ending.returned (.string ⟨l.toArray⟩)) HV2.out.symm,by rw [HXZ.out];exact HFIN.out _ HS.out.bel⟩
section
variable {H:Type} {enc:TypeId × Value->H} {P:Program} {w:World} {base:Nat} {spare:Nat->Bool} {held:Bool}
def Wt (P:Program) (t:TypeId) (d:DataW H):Prop:=(d.weights P t).all (· <=reachBytes)=true
theorem ziT: ∀(ts:List TypeId) (ds:List (DataW H)),(DataW.weightsEach P ts ds).all (· <=reachBytes)=true-> ∀(i:Nat) (t:TypeId) (d:DataW H),ts[i]?=some t->ds[i]?=some d->Wt P t d
 |[],_,_,i,t,d,h,_=>by simp at h
 |_::_,[],_,i,t,d,_,h=>by simp at h
 |t0::ts,d0::ds,h,i,t,d,ht,hd=>by
  unfold DataW.weightsEach at h;rw [List.all_append,zzq6]at h
  cases i with
  |zero=>
   simp at ht hd;subst ht;subst hd;exact h.1
  |succ i=>exact ziT ts ds h.2 i t d (by simpa using ht) (by simpa using hd)
theorem zpp (e:TypeId): ∀(ds:List (DataW H)),(DataW.weightsAll P e ds).all (· <=reachBytes)=true-> ∀d∈ds,Wt P e d
 |[],_,_,h=>by cases h
 |d0::ds,h,d,hd=>by
  unfold DataW.weightsAll at h;rw [List.all_append,zzq6]at h;rcases List.mem_cons.1 hd with rfl|hd
  ·exact h.1
  ·exact zpp e ds h.2 d hd
theorem zdo {t:TypeId} {fuel:Nat} {cs:List Value} {x:DataW H × List MemPlace} {fs:Array Field} (hS:P.underlying t=some (.struct fs)) (h:DataW.trod enc P w base spare held fuel t cs=some x) (hw:Wt P t x.1):
  ∃n,fuel=n+1/\cs.length=P.cellsOf t/\ ∀(i:Nat) (f:Field) (ty:TypeId) (o m:Nat),fs[i]?=some f->f.type=ty->f.offset=o->P.cellsOf ty=m-> ∃y,DataW.trod enc P w base spare held n ty ((cs.drop o).take m)=some y/\Wt P ty y.1:=by
 obtain⟨xs,n,rfl,rfl,hl,hxl,hx⟩:=DataW.trod_struct hS h;refine⟨n,rfl,hl,fun i f ty o m hf e1 e2 e3=>?_⟩;have hi:=hx i f hf;have hil:i<xs.length:=by rw [hxl];exact(Array.getElem?_eq_some_iff.1 hf).1
 rw [zzq11 hil]at hi;refine⟨xs[i],by rw [<-e1,<-e2,<-e3,<-e1];exact hi,?_⟩;unfold Wt DataW.weights at hw;simp only [hS]at hw;refine ziT _ _ hw i ty _ ?_ (by rw [List.getElem?_map,zzq11 hil];rfl);rw [List.getElem?_map,<-e1];simp [hf]
theorem zoT {t:TypeId} {fuel:Nat} {cs:List Value} {x:DataW H × List MemPlace} (ht:P.underlying t=some .string) (h:DataW.trod enc P w base spare held fuel t cs=some x) (hw:Wt P t x.1): ∃s,cs= [.string s]/\s.size<=140737488351232:=by
 obtain⟨s,e,rfl,hs⟩:=DataW.trod_string ht h;refine⟨s,e,?_⟩;unfold Wt DataW.weights at hw;have h1:s.data.toList.length<=reachBytes:=zza (zzp.1 hw _ (List.mem_singleton.2 rfl));rw [Array.length_toList]at h1;exact h1
theorem ziJ {t:TypeId} {fuel:Nat} {cs:List Value} {x:DataW H × List MemPlace} (ht:P.underlying t=some .bool) (h:DataW.trod enc P w base spare held fuel t cs=some x): ∃b,cs= [.bool b]:=by
 obtain⟨b,e,_⟩:=DataW.trod_bool ht h;exact⟨b,e⟩
theorem zei {α:Type} {t e:TypeId} {size fuel:Nat} {cs:List Value} {x:DataW H × List MemPlace} (R:List Value->α->Prop) (ht:P.underlying t=some (.slice e)) (hC:P.cellsOf e=size) (h0:0<size)
  (h:DataW.trod enc P w base spare held fuel t cs=some x) (hw:Wt P t x.1)
  (hR: ∀n cs' y,n<fuel->cs'.length=size->DataW.trod enc P w base spare held n e cs'=some y->Wt P e y.1-> ∃a,R cs' a):
  ∃ao c l,cs= [.slice ao l.length c]/\SlAt w size R ao l/\l.length<=maxLen:=by
 rcases DataW.trod_slice ht h with⟨e1,_⟩|⟨a,len,cap,elems,rest,n,hf,e1,rfl,hb,hl,hm,hlen,hel,_,_⟩
 ·exact⟨none,0,[],e1,.inl rfl,zzZ _⟩
 ·have hwe: ∀d∈elems.map (·.1),Wt P e d:=by
   unfold Wt DataW.weights at hw;simp only [ht]at hw;rw [List.all_cons,List.all_append,zzq6,zzq6]at hw;exact zpp e _ hw.2.1
  have each: ∀i,i<len-> ∃(x:α) (cs':List Value),cs'.length=size/\(∀k,k<size->w.cell? ((a.add (i*size)).add k)=cs'[k]?)/\R cs' x:=fun i hi=>by
   have hx:=hel i hi;have hil:i<elems.length:=by omega
   rw [zzq11 hil,Option.bind_eq_some_iff]at hx;obtain⟨cs',hc,ht'⟩:=hx;rw [hC]at hc;obtain⟨_,hcl,hat⟩:=World.cells?_some hc;obtain⟨x,hx⟩:=hR n cs' _ (by omega) hcl ht' (hwe _ (List.mem_map.2 ⟨_,zzM hil,rfl⟩));exact⟨x,cs',hcl,hat,hx⟩
  have all: ∀m,m<=len-> ∃l:List α,l.length=m/\ ∀j (h:j<l.length),∃cs':List Value,cs'.length=size/\(∀k,k<size->w.cell? ((a.add (j*size)).add k)=cs'[k]?)/\R cs' l[j]:=by
   intro m
   induction m with
   |zero=>exact fun _=>⟨[],rfl,fun j h=>absurd h (zzC _)⟩
   |succ m ih=>
    intro hm';obtain⟨l,hl',hr⟩:=ih (by omega);obtain⟨x,cs',h1,h2,h3⟩:=each m (by omega);refine⟨l++ [x],by simp [hl'],fun j hj=>?_⟩;by_cases hjl:j<l.length
    ·obtain⟨cs2,g1,g2,g3⟩:=hr j hjl
     exact⟨cs2,g1,g2,by rw [List.getElem_append_left hjl];exact g3⟩
    ·have hj2:j=m:=by simp at hj;omega
     subst hj2;refine⟨cs',h1,h2,?_⟩;rw [List.getElem_append_right (by omega)]
     simpa [hl'] using h3
  obtain⟨l,hl2,hr⟩:=all len (zzL _);refine⟨some a,cap,l,by rw [hl2];exact e1,?_,by omega⟩;rcases Nat.eq_zero_or_pos len with hz|hz
  ·left;exact zzQ (by omega)
  ·right
   obtain⟨cs0,k1,k2,_⟩:=hr 0 (by omega)
   have hc0:w.cell? a=some (cs0[0]'(by omega)):=by
    have:=k2 0 h0;rw [Nat.zero_mul]at this;rw [<-zzq11,<-this];rfl
   have hsp:=World.cell?_spot (a:=a) hc0;obtain⟨b,off,sp⟩:=a;simp only at hsp;subst hsp;have hadd: ∀k,(⟨b,off,none⟩:Addr).add k=⟨b,off+k,none⟩:=fun k=>by unfold Addr.add;split<;>simp_all
   have hadd2: ∀o k,(⟨b,o,none⟩:Addr).add k=⟨b,o+k,none⟩:=fun o k=>by unfold Addr.add;split<;>simp_all
   refine⟨b,off,rfl,?_,fun j hj=>?_⟩
   ·rcases Nat.lt_or_ge b w.heap.size with h|h
    ·exact h
    ·simp [World.cell?,Array.getElem?_eq_none h]at hc0
   ·obtain⟨cs2,g1,g2,g3⟩:=hr j hj
    refine⟨cs2,g1,fun i hi=>?_,g3⟩;have:=g2 i hi
    rwa [hadd,hadd2]at this
end
theorem cI:Tryz.prog.cellsOf 3=1:=by kernel_rfl
theorem zqj:Tryz.prog.cellsOf 2=1:=by kernel_rfl
theorem cS:Tryz.prog.cellsOf 9=1:=by kernel_rfl
theorem cB:Tryz.prog.cellsOf 4=1:=by kernel_rfl
theorem zkl:Tryz.prog.cellsOf 31=2:=by kernel_rfl
theorem zr7:Tryz.prog.cellsOf 119=2:=by kernel_rfl
theorem zud:Tryz.prog.cellsOf 121=6:=by kernel_rfl
theorem zr2:Tryz.prog.cellsOf 57=4:=by kernel_rfl
theorem ztX:Tryz.prog.cellsOf 59=3:=by kernel_rfl
theorem zua:Tryz.prog.cellsOf 36=10:=by kernel_rfl
theorem zmM:Tryz.prog.cellsOf 55=9:=by kernel_rfl
theorem zuD:Tryz.prog.cellsOf 27=6:=by kernel_rfl
theorem znY:Tryz.prog.cellsOf 22=1:=by kernel_rfl
theorem zuF:Tryz.prog.cellsOf 32=1:=by kernel_rfl
theorem zt4:Tryz.prog.cellsOf 33=1:=by kernel_rfl
theorem zuA:Tryz.prog.cellsOf 34=1:=by kernel_rfl
theorem zt7:Tryz.prog.cellsOf 23=1:=by kernel_rfl
theorem zuw:Tryz.prog.cellsOf 24=1:=by kernel_rfl
theorem zur:Tryz.prog.cellsOf 25=1:=by kernel_rfl
theorem zuK {cs:List Value} (h:cs.length=2): ∃a b,cs= [a,b]:=by
 match cs,h with
 |[a,b],_=>exact⟨a,b,rfl⟩
theorem zuM {cs:List Value} (h:cs.length=3): ∃a b c,cs= [a,b,c]:=by
 match cs,h with
 |[a,b,c],_=>exact⟨a,b,c,rfl⟩
theorem zuH {cs:List Value} (h:cs.length=4): ∃a b c d,cs= [a,b,c,d]:=by
 match cs,h with
 |[a,b,c,d],_=>exact⟨a,b,c,d,rfl⟩
theorem ztU {cs:List Value} (h:cs.length=6): ∃a b c d e f,cs= [a,b,c,d,e,f]:=by
 match cs,h with
 |[a,b,c,d,e,f],_=>exact⟨a,b,c,d,e,f,rfl⟩
theorem zuL {cs:List Value} (h:cs.length=9): ∃a b c d e f g i j,cs= [a,b,c,d,e,f,g,i,j]:=by
 match cs,h with
 |[a,b,c,d,e,f,g,i,j],_=>exact⟨a,b,c,d,e,f,g,i,j,rfl⟩
theorem zuk {cs:List Value} (h:cs.length=10): ∃a b c d e f g i j k,cs= [a,b,c,d,e,f,g,i,j,k]:=by
 match cs,h with
 |[a,b,c,d,e,f,g,i,j,k],_=>exact⟨a,b,c,d,e,f,g,i,j,k,rfl⟩
theorem zbp {a b:Value} (h: [a]= [b]):a=b:=by injection h
section
variable {H:Type} {enc:TypeId × Value->H} {w:World} {base:Nat} {spare:Nat->Bool} {held:Bool} {fuel:Nat} {cs:List Value} {x:DataW H × List MemPlace}
theorem zgW (h:DataW.trod enc Tryz.prog w base spare held fuel 31 cs=some x) (hw:Wt Tryz.prog 31 x.1): ∃a,zdY cs a:=by
 obtain⟨n,rfl,hl,hf⟩:=zdo Tryz.underlying31 h hw;rw [zkl]at hl;exact zz204
theorem znU (h:DataW.trod enc Tryz.prog w base spare held fuel 119 cs=some x) (hw:Wt Tryz.prog 119 x.1): ∃a,zdc cs a:=by
 obtain⟨n,rfl,hl,hf⟩:=zdo Tryz.underlying119 h hw;rw [zr7]at hl;exact zz204
theorem zrs (h:DataW.trod enc Tryz.prog w base spare held fuel 121 cs=some x) (hw:Wt Tryz.prog 121 x.1): ∃a,zdZ cs a:=by
 obtain⟨n,rfl,hl,hf⟩:=zdo Tryz.underlying121 h hw;rw [zud]at hl;obtain⟨a,b,c,d,e,f,rfl⟩:=ztU hl;obtain⟨y0,h0,_⟩:=hf 0 _ 3 0 1 rfl rfl rfl cI;obtain⟨y1,h1,w1⟩:=hf 1 _ 31 1 2 rfl rfl rfl zkl;obtain⟨y2,h2,w2⟩:=hf 2 _ 31 3 2 rfl rfl rfl zkl;obtain⟨y3,h3,_⟩:=hf 3 _ 4 5 1 rfl rfl rfl cB;obtain⟨n0,e0,i0⟩:=zb1 Tryz.underlying3 h0;obtain⟨a1,e1,i1,j1⟩:=zgW h1 w1;obtain⟨a2,e2,i2,j2⟩:=zgW h2 w2;obtain⟨b3,e3⟩:=ziJ Tryz.underlying4 h3;obtain rfl:=zbp e0;obtain rfl:=zbp e3;have e1': [b,c]= [Value.int .i64 a1.kind,.int .i64 a1.n]:=e1;have e2': [d,e]= [Value.int .i64 a2.kind,.int .i64 a2.n]:=e2;simp only [List.cons.injEq,and_true]at e1' e2';obtain⟨rfl,rfl⟩:=e1';obtain⟨rfl,rfl⟩:=e2';exact⟨⟨n0,a1,a2,b3⟩,rfl,i0,i1,j1,i2,j2⟩
theorem zoB (h:DataW.trod enc Tryz.prog w base spare held fuel 57 cs=some x) (hw:Wt Tryz.prog 57 x.1): ∃a,zd0 cs a:=by
 obtain⟨n,rfl,hl,hf⟩:=zdo Tryz.underlying57 h hw;rw [zr2]at hl;obtain⟨a,b,c,d,rfl⟩:=zuH hl;obtain⟨y0,h0,_⟩:=hf 0 _ 9 0 1 rfl rfl rfl cS;obtain⟨y1,h1,_⟩:=hf 1 _ 3 1 1 rfl rfl rfl cI;obtain⟨y2,h2,_⟩:=hf 2 _ 4 2 1 rfl rfl rfl cB;obtain⟨y3,h3,_⟩:=hf 3 _ 3 3 1 rfl rfl rfl cI;obtain⟨s0,e0,i0⟩:=zf1 Tryz.underlying9 h0;obtain⟨n1,e1,i1⟩:=zb1 Tryz.underlying3 h1;obtain⟨b2,e2⟩:=ziJ Tryz.underlying4 h2;obtain⟨n3,e3,i3⟩:=zb1 Tryz.underlying3 h3;obtain rfl:=zbp e0;obtain rfl:=zbp e1;obtain rfl:=zbp e2;obtain rfl:=zbp e3;exact⟨⟨s0,n1,b2,n3⟩,rfl,i0,i1,i3⟩
theorem zre (h:DataW.trod enc Tryz.prog w base spare held fuel 59 cs=some x) (hw:Wt Tryz.prog 59 x.1): ∃a,zbA cs a:=by
 obtain⟨n,rfl,hl,hf⟩:=zdo Tryz.underlying59 h hw;rw [ztX]at hl;obtain⟨a,b,c,rfl⟩:=zuM hl;obtain⟨y0,h0,_⟩:=hf 0 _ 3 0 1 rfl rfl rfl cI;obtain⟨y1,h1,_⟩:=hf 1 _ 3 1 1 rfl rfl rfl cI;obtain⟨y2,h2,_⟩:=hf 2 _ 3 2 1 rfl rfl rfl cI;obtain⟨n0,e0,i0⟩:=zb1 Tryz.underlying3 h0;obtain⟨n1,e1,i1⟩:=zb1 Tryz.underlying3 h1;obtain⟨n2,e2,i2⟩:=zb1 Tryz.underlying3 h2;obtain rfl:=zbp e0;obtain rfl:=zbp e1;obtain rfl:=zbp e2;exact⟨⟨n0,n1,n2⟩,rfl,i0,i1,i2⟩
def ztT (w:World) (cs:List Value) (x:RIns):Prop:=InsR w cs x/\x.name.size<=140737488351232
theorem zqn (h:DataW.trod enc Tryz.prog w base spare held fuel 36 cs=some x) (hw:Wt Tryz.prog 36 x.1): ∃a,ztT w cs a:=by
 obtain⟨n,rfl,hl,hf⟩:=zdo Tryz.underlying36 h hw;rw [zua]at hl;obtain⟨a,b,c,d,e,f,g,i,j,k,rfl⟩:=zuk hl;obtain⟨y0,h0,_⟩:=hf 0 _ 3 0 1 rfl rfl rfl cI;obtain⟨y1,h1,w1⟩:=hf 1 _ 31 1 2 rfl rfl rfl zkl;obtain⟨y2,h2,w2⟩:=hf 2 _ 32 3 1 rfl rfl rfl zuF;obtain⟨y3,h3,_⟩:=hf 3 _ 3 4 1 rfl rfl rfl cI;obtain⟨y4,h4,_⟩:=hf 4 _ 3 5 1 rfl rfl rfl cI;obtain⟨y5,h5,_⟩:=hf 5 _ 3 6 1 rfl rfl rfl cI;obtain⟨y6,h6,w6⟩:=hf 6 _ 9 7 1 rfl rfl rfl cS;obtain⟨y7,h7,w7⟩:=hf 7 _ 33 8 1 rfl rfl rfl zt4;obtain⟨y8,h8,w8⟩:=hf 8 _ 34 9 1 rfl rfl rfl zuA;obtain⟨n0,e0,i0⟩:=zb1 Tryz.underlying3 h0;obtain⟨a1,e1,i1,j1⟩:=zgW h1 w1;obtain⟨so,sc,l2,e2,s2,b2⟩:=zei zdY Tryz.underlying32 zkl (by decide) h2 w2 (fun n cs' y _ _ hy wy=>zgW hy wy);obtain⟨n3,e3,i3⟩:=zb1 Tryz.underlying3 h3;obtain⟨n4,e4,i4⟩:=zb1 Tryz.underlying3 h4;obtain⟨n5,e5,i5⟩:=zb1 Tryz.underlying3 h5;obtain⟨s6,e6,i6⟩:=zoT Tryz.underlying9 h6 w6;obtain⟨co,cc,l7,e7,s7,b7⟩:=zei zdc Tryz.underlying33 zr7 (by decide) h7 w7 (fun n cs' y _ _ hy wy=>znU hy wy);obtain⟨go,gc,l8,e8,s8,b8⟩:=zei zdZ Tryz.underlying34 zud (by decide) h8 w8 (fun n cs' y _ _ hy wy=>zrs hy wy);obtain rfl:=zbp e0;obtain rfl:=zbp e2;obtain rfl:=zbp e3;obtain rfl:=zbp e4;obtain rfl:=zbp e5;obtain rfl:=zbp e6;obtain rfl:=zbp e7;obtain rfl:=zbp e8;have e1': [b,c]= [Value.int .i64 a1.kind,.int .i64 a1.n]:=e1;simp only [List.cons.injEq,and_true]at e1';obtain⟨rfl,rfl⟩:=e1';exact⟨⟨n0,a1,l2,n3,n4,n5,s6,l7,l8⟩,⟨⟨so,sc,co,cc,go,gc,rfl,s2,s7,s8⟩,i0,i1,j1,b2,i3,i4,i5,zzY i6 (by decide),b7,b8⟩,i6⟩
end
section
variable {H:Type} {enc:TypeId × Value->H} {w:World} {base:Nat} {spare:Nat->Bool} {held:Bool}
theorem zsp: ∀(fuel:Nat) {cs:List Value} {x:DataW H × List MemPlace},DataW.trod enc Tryz.prog w base spare held fuel 55 cs=some x->Wt Tryz.prog 55 x.1-> ∃t,TmA w cs t:=by
 intro fuel
 induction fuel using Nat.strongRecOn with
 |_ fuel ih=>
  intro cs x h hw;obtain⟨n,rfl,hl,hf⟩:=zdo Tryz.underlying55 h hw;rw [zmM]at hl;obtain⟨a,b,c,d,e,f,g,i,j,rfl⟩:=zuL hl;obtain⟨y0,h0,_⟩:=hf 0 _ 3 0 1 rfl rfl rfl cI;obtain⟨y1,h1,_⟩:=hf 1 _ 2 1 1 rfl rfl rfl zqj;obtain⟨y2,h2,_⟩:=hf 2 _ 2 2 1 rfl rfl rfl zqj;obtain⟨y3,h3,_⟩:=hf 3 _ 9 3 1 rfl rfl rfl cS;obtain⟨y4,h4,_⟩:=hf 4 _ 9 4 1 rfl rfl rfl cS;obtain⟨y5,h5,_⟩:=hf 5 _ 3 5 1 rfl rfl rfl cI;obtain⟨y6,h6,w6⟩:=hf 6 _ 22 6 1 rfl rfl rfl znY;obtain⟨y7,h7,_⟩:=hf 7 _ 9 7 1 rfl rfl rfl cS;obtain⟨y8,h8,_⟩:=hf 8 _ 3 8 1 rfl rfl rfl cI;obtain⟨n0,e0,i0⟩:=zb1 Tryz.underlying3 h0;obtain⟨n1,e1,i1⟩:=zb1 Tryz.underlying2 h1;obtain⟨n2,e2,i2⟩:=zb1 Tryz.underlying2 h2;obtain⟨s3,e3,i3⟩:=zf1 Tryz.underlying9 h3;obtain⟨s4,e4,i4⟩:=zf1 Tryz.underlying9 h4;obtain⟨n5,e5,i5⟩:=zb1 Tryz.underlying3 h5;obtain⟨ao,ac,l6,e6,s6,b6⟩:=zei (TmA w) Tryz.underlying22 zmM (by decide) h6 w6 (fun m cs' y hm _ hy wy=>ih m (by omega) hy wy);obtain⟨s7,e7,i7⟩:=zf1 Tryz.underlying9 h7;obtain⟨n8,e8,i8⟩:=zb1 Tryz.underlying3 h8;obtain rfl:=zbp e0;obtain rfl:=zbp e1;obtain rfl:=zbp e2;obtain rfl:=zbp e3;obtain rfl:=zbp e4;obtain rfl:=zbp e5;obtain rfl:=zbp e6;obtain rfl:=zbp e7;obtain rfl:=zbp e8;obtain⟨q,hq⟩:=zjp s6;exact⟨.mk n0 n1 n2 s3 s4 n5 l6 s7 n8,q+1,⟨ao,ac,rfl,hq⟩,i0,i1,i2,i3,i4,i5,b6,i7,i8⟩
end
theorem zoN {H:Type} {enc:TypeId × Value->H} {W:World} {base b0:Nat} {spare:Nat->Bool} {held:Bool} {r:Reach} {v:Value} {d:DataW H} {p:List MemPlace}
  (hv:Value.okWide Tryz.prog W r b0 27 v) (h:DataW.Trod enc Tryz.prog W base spare held 27 v d p) (hw:Wt Tryz.prog 27 d):
  ∃(u:RUnit) (lo fo go co:zzA) (lc fc gc cc:Nat),v= .agg #[.string u.mdl,.int .i64 u.vsn,.slice lo u.lits.length lc,.slice fo u.funcs.length fc,.slice go u.funs.length gc,.slice co u.code.length cc]/\UP W u lo fo go co/\ ∀x∈u.code,x.name.size<=140737488351232:=by
 obtain⟨cs,rfl,_⟩: ∃cs,v= .agg cs/\True:=by
  unfold Value.okWide at hv;simp only [Tryz.underlying27]at hv;obtain⟨cs,e,_⟩:=hv;exact⟨cs,e,trivial⟩
 obtain⟨fuel,hf0⟩:=h;obtain⟨n,rfl,hl,hf⟩:=zdo Tryz.underlying27 hf0 hw;rw [zuD]at hl;have hcs:(Value.agg cs).cells.toList=cs.toList:=rfl;rw [hcs]at hl hf;obtain⟨a,b,c,e,f,g,hcl⟩:=ztU hl;obtain rfl:cs=#[a,b,c,e,f,g]:=Array.toList_inj.1 hcl;obtain⟨y0,h0,w0⟩:=hf 0 _ 9 0 1 rfl rfl rfl cS;obtain⟨y1,h1,_⟩:=hf 1 _ 2 1 1 rfl rfl rfl zqj;obtain⟨y2,h2,w2⟩:=hf 2 _ 22 2 1 rfl rfl rfl znY;obtain⟨y3,h3,w3⟩:=hf 3 _ 23 3 1 rfl rfl rfl zt7;obtain⟨y4,h4,w4⟩:=hf 4 _ 24 4 1 rfl rfl rfl zuw;obtain⟨y5,h5,w5⟩:=hf 5 _ 25 5 1 rfl rfl rfl zur;obtain⟨s0,e0,i0⟩:=zf1 Tryz.underlying9 h0;obtain⟨n1,e1,i1⟩:=zb1 Tryz.underlying2 h1;obtain⟨lo,lc,l2,e2,s2,b2⟩:=zei (TmA W) Tryz.underlying22 zmM (by decide) h2 w2 (fun m cs' y hm _ hy wy=>zsp m hy wy);obtain⟨fo,fc,l3,e3,s3,b3⟩:=zei zd0 Tryz.underlying23 zr2 (by decide) h3 w3 (fun m cs' y hm _ hy wy=>zoB hy wy);obtain⟨go,gc,l4,e4,s4,b4⟩:=zei zbA Tryz.underlying24 ztX (by decide) h4 w4 (fun m cs' y hm _ hy wy=>zre hy wy);obtain⟨co,cc,l5,e5,s5,b5⟩:=zei (ztT W) Tryz.underlying25 zua (by decide) h5 w5 (fun m cs' y hm _ hy wy=>zqn hy wy);obtain rfl:=zbp e0;obtain rfl:=zbp e1;obtain rfl:=zbp e2;obtain rfl:=zbp e3;obtain rfl:=zbp e4;obtain rfl:=zbp e5;refine⟨⟨s0,n1,l2,l3,l4,l5⟩,lo,fo,go,co,lc,fc,gc,cc,rfl,⟨s2,s3,s4,s5.imp fun _ _ h=>h.1,i0,i1,b2,b3,b4,b5⟩,fun x hx=>?_⟩;obtain⟨j,hj,rfl⟩:=List.getElem_of_mem hx;obtain⟨_,_,_,_,hr⟩:=s5.row hj;obtain⟨_,_,_,hr2⟩:=hr j hj;exact hr2.2
end Go.Proofs.YtijekmeocadkeaaGreatDoor
