import Derived.Test.YtijekmeocadkeaaGreatDoorW08
import Derived.Test.YtijekmeocadkeaaGreatDoorW09
import Derived.Test.YtijekmeocadkeaaGreatDoorW10
namespace Go.Proofs.YtijekmeocadkeaaGreatDoor
open Go.RowKit
set_option linter.unusedVariables false
set_option linter.unusedSimpArgs false
set_option maxRecDepth 100000
set_option maxHeartbeats 0
open Go.RowKit Go.Shelf Go.Lib
theorem ziV {B:Nat} {a w:World} (h:Below B a w) (n:Nat):Below B a (w.drewN n):=⟨h.os,h.tape,h.output,h.size,h.block⟩
def QW (w w':World):Prop:= ∃n,w'=w.drewN n
theorem QW.refl (w:World):QW w w:=⟨0,rfl⟩
theorem QW.drewN {a w:World} (h:QW a w) (n:Nat):QW a (w.drewN n):=by
 obtain⟨m,rfl⟩:=h;exact⟨m+n,by rw [World.drewN_drewN]⟩
theorem QW.below {B:Nat} {a w:World} (h:QW a w):Below B a w:=by
 obtain⟨m,rfl⟩:=h;exact ziV (zzR _ _) m
theorem zrk (ao:zzA) (c:Nat) (l:List Ch) (w:World) (h:ListS w ao l) (hl:l.length<=9223372036854775807) (hz: ∀j,j<l.length->l[j]!.1.size<=100):
  Calls Tryz.prog 45 #[.slice ao l.length c] w fun e w'=>e= .returned (.bool (dst l))/\QW w w':=by
 have HR:=zzH h;have HZ:=zzH hz;clear h hz;go_in;go_wp2_with fail;go_loopw [3] (fun i wr=> ∃k:Nat,k<=l.length/\i= .int .i64 k/\QW w wr/\Hid (∀j,j<k->zeO l j=true)) (fun i _=>l.length-(intOf i).toNat)
 case atStart=>exact⟨0,zzZ _,rfl,QW.refl _,zzH (fun j hj=>absurd hj (zzC _))⟩
 case round=>
  obtain⟨k,hk,rfl,hQ,HG⟩:=hrel;rename World=>wr
  have hB:Below w.heap.size w wr:=hQ.below;by_cases hlt:k<l.length
  ·obtain⟨b,off,hao,hr0⟩:=HR.out.row hlt
   subst hao;have hrr:=hr0.below hB hr0.1;have hc0:=(hrr.2 k hlt).1;have HRR:=zzH hr0;clear hrr hr0;have hgood:zeO l k=(nm l[k]!.1.data.toList&&decide (∀j,j<k->l[j]!.1.data.toList≠l[k]!.1.data.toList)):=rfl
   have HGOOD:=zzH hgood;clear hgood;have hnz:=HZ.out k hlt;generalize hn:l[k]!.1=n at *
   have HN:=zzH hn;clear hn
   cases hnm:nm n.data.toList with
   |false=>
    have E:Hid (dst l=false):=zzH (ziA hlt (by rw [HGOOD.out,hnm];rfl));go_wp2_with (go_at_call 90;refine(zhh _ _ (by unfold maxLen;omega)).mono ?_;rintro e w1 ⟨rfl,rfl⟩);go_ret;exact⟨zdk E.out.symm,hQ⟩
   |true=>
    go_wp2_with (go_at_call 90;refine(zhh _ _ (by unfold maxLen;omega)).mono ?_;rintro e w1 ⟨rfl,rfl⟩);obtain⟨wo,hwo⟩: ∃wo:World,wo=wr:=⟨_,rfl⟩;subst hwo;go_loopw [4] (fun i wq=> ∃m:Nat,m<=k/\i= .int .i64 m/\QW w wq/\Hid (∀j,j<m->l[j]!.1.data.toList≠n.data.toList)) (fun i _=>k-(intOf i).toNat)
    case atStart=>exact⟨0,zzZ _,rfl,hQ,zzH (fun j hj=>absurd hj (zzC _))⟩
    case round=>
     obtain⟨m,hm,rfl,hQ2,HM⟩:=hrel;rename World=>wq
     have hB2:Below w.heap.size w wq:=hQ2.below;by_cases hmk:m<k
     ·have hrr:=HRR.out.below hB2 HRR.out.1
      have hd0:=(hrr.2 m (by omega)).1;have hd1:=(hrr.2 k hlt).1;rw [HN.out]at hd1;clear hrr hc0;have hml:m<l.length:=by omega
      generalize hn2:l[m]!.1=n2 at *
      have HN2:=zzH hn2;clear hn2;by_cases same:n2.data.toList=n.data.toList
      ·have E:Hid (dst l=false):=zzH (ziA hlt (by rw [HGOOD.out,hnm,decide_eq_false (fun hh=>hh m hmk (by rw [HN2.out];exact same))];rfl))
       have hs:(n2.toList==n.toList)=true:=by rw [zzq14,zzq14,same];exact beq_self_eq_true _
       clear same;go_wp2_with fail;go_quiet (fail);go_wp2;go_ret;exact⟨zdk E.out.symm,hQ2.drewN _⟩
      ·have hs:(n2.toList==n.toList)=false:=by rw [zzq14,zzq14];exact zzB.2 same
       have HM2:Hid (∀j,j<m+1->l[j]!.1.data.toList≠n.data.toList):=zzH (fun j hj=>by
        rcases Nat.eq_or_lt_of_le (Nat.le_of_lt_succ hj)with e|e
        ·rw [e,HN2.out];exact same
        ·exact HM.out j e)
       clear same;go_wp2_with fail;go_quiet (fail);go_wp2_with fail;go_roundw
       case rel=>exact⟨m+1,by omega,by go_num,hQ2.drewN _,HM2⟩
       case measure=>simp [intOf];omega
     ·have hg:zeO l k=true:=by rw [HGOOD.out,hnm,decide_eq_true (fun j hj=>HM.out j (by omega))];rfl
      have HG2:Hid (∀j,j<k+1->zeO l j=true):=zzH (fun j hj=>by
       rcases Nat.eq_or_lt_of_le (Nat.le_of_lt_succ hj)with e|e
       ·rw [e];exact hg
       ·exact HG.out j e)
      clear hg;go_wp2_with fail;go_roundw
      case rel=>exact⟨k+1,by omega,by go_num,hQ2,HG2⟩
      case measure=>simp [intOf];omega
  ·go_wp2
   go_ret;exact⟨zdk (zml (fun i hi=>HG.out i (by omega))).symm,hQ⟩
theorem zqF (ao:zzA) (c:Nat) (l:List Ch) (w:World) (h:ListS w ao l) (hl:l.length<=9223372036854775807) (hz: ∀j,j<l.length->l[j]!.1.size<=100):
  Calls Tryz.prog 45 #[.slice ao l.length c] w fun e w'=>e= .returned (.bool (dst l))/\Below w.heap.size w w':=
 (zrk ao c l w h hl hz).mono fun _ _ ⟨a,b⟩=>⟨a,b.below⟩
theorem zl8 (ao:zzA) (c:Nat) (l:List Ch) (w:World) (h:ListS w ao l) (hs:zf7 l):
  Calls Tryz.prog 46 #[.slice ao l.length c] w fun e w'=>e= .returned (.int .i64 (szL l))/\w=w':=by
 have HR:=zzH h;have HS:=zzH hs;have hlen:=hs.1;clear h hs;go_in;go_wp2_with fail;go_loop [3,4] (fun n i=> ∃k:Nat,k<=l.length/\i= .int .i64 k/\n= .int .i64 (szL (l.take k))) (fun _ i=>l.length-(intOf i).toNat)
 case atStart=>exact⟨0,zzZ _,rfl,rfl⟩
 case round=>
  obtain⟨k,hk,rfl,rfl⟩:=hrel;have hz:=zgo HS.out k hk;by_cases hlt:k<l.length
  ·obtain⟨b,off,hao,hr0⟩:=HR.out.row hlt
   subst hao;have hc1:=(hr0.2 k hlt).2;have hsz:=(HS.out.2 k hlt).1;have HST:=zzH (zfg hlt);clear hr0;generalize l[k]!.2=d at *
   generalize szL (l.take k)=z at *;go_wp2;go_round
   case rel=>exact⟨k+1,by omega,by go_num,by rw [HST.out];exact congrArg (Value.int .i64) (by unfold zbm;omega)⟩
   case measure=>simp [intOf];omega
  ·have hfull:Hid (l.take k=l):=zzH (List.take_of_length_le (by omega))
   go_wp2;go_ret;exact⟨zhu (by rw [hfull.out]),rfl⟩
theorem zeG (l k:List UInt8):opt true l++k=l++k:=rfl
theorem zt2 (l k:List UInt8):opt false l++k=k:=rfl
theorem zoJ (l:List RArg) {k:Nat} (h:k<l.length):zcV (l.drop k)=zbG l[k]++zcV (l.drop (k+1)):=by
 unfold zcV;rw [List.drop_eq_getElem_cons h];rfl
theorem zls (l:List RCase) {k:Nat} (h:k<l.length):zba (l.drop k)=zf l[k].lit.toNat++(zf l[k].to.toNat++zba (l.drop (k+1))):=by
 unfold zba;rw [List.drop_eq_getElem_cons h,List.flatMap_cons];unfold zfq;rw [zzq4]
theorem zmH (l:List RSeg) {k:Nat} (h:k<l.length):zX (l.drop k)=zf l[k].type.toNat++(zbG l[k].val++(zbG l[k].size++(zde l[k].little++zX (l.drop (k+1))))):=by
 unfold zX;rw [List.drop_eq_getElem_cons h,List.flatMap_cons];unfold zgD;simp only [zzq4]
theorem ziP (h:Nat) (x:RIns):zd7 h x=zf x.op.toNat++(opt (zm h 1) (zbG x.dst)++(opt (zm h 2) (zf x.src.length++zcV x.src)++(opt (zm h 4) (zf x.n.toNat)++(opt (zm h 8) (zD x.name) ++
  (opt (zm h 16) (zf x.cases.length++zba x.cases)++(opt (zm h 32) (zf x.segs.length++zX x.segs)++(opt (zm h 64) (zf x.to.toNat)++(opt (zm h 128) (zf x.live.toNat)++ [])))))))):=by
 rw [List.append_nil];rfl
theorem zcd (h f:Nat) (hh:h<1000) (hf:f<1000):bits .and .i64 (h:Int) (f:Int)=((h&&&f:Nat):Int)/\((((h&&&f:Nat):Int)!=0)=zm h f):=by
 refine⟨zhv h f (by omega) (by omega),?_⟩;unfold zm;by_cases c:h&&&f=0
 ·rw [c];rfl
 ·rw [decide_eq_true c];rw [bne_iff_ne];omega
theorem WrAt.base {B r:Nat} {l:List UInt8} {w w':World} (h:WrAt B r l w) (hb:Below w.heap.size w w'):WrAt B r l w':=h.next hb
theorem znr (w0:World) (r:Nat) (l:List UInt8) (b o:Nat) (x:RIns) (so co go:zzA) (sc cc gc:Nat) (w:World)
  (hrows:RowsAt w0) (hwr:WrAt w0.heap.size r l w) (hb0:Below w0.heap.size w0 w) (hx:IBox w0 b o x so co go sc cc gc) (hop:1<=x.op/\x.op<=40) (hw:WIns (zr x.op).1.toNat x) (hl:l.length<=70368740000000):
  Calls Tryz.prog 37 #[.pointer (some ⟨r,0,none⟩),.pointer (some ⟨b,o,none⟩)] w fun e w'=>e= .returned (.tuple #[])/\WrAt w0.heap.size r (l++zd7 (zr x.op).1.toNat x) w'/\Below w0.heap.size w w'/\Stays w w':=by
 refine zzK3 hwr hx hw fun HWR HX HW=>?_;have hro:=zhT hop w (hrows.below hb0);have hrl:= @zgK x.op;have hxw:=hx.below hb0;have c0:=hxw.c0;have hbl:=hxw.lt;have HBB:Hid (w0.heap.size<=w.heap.size):=zzH hb0.size;have HB0:=zzH hb0;have HE:=zzH (ziP (zr x.op).1.toNat x);have ht1:=zcd (zr x.op).1.toNat 1 hrl.1 (by decide);have ht2:=zcd (zr x.op).1.toNat 2 hrl.1 (by decide);have ht4:=zcd (zr x.op).1.toNat 4 hrl.1 (by decide);have ht8:=zcd (zr x.op).1.toNat 8 hrl.1 (by decide);have ht16:=zcd (zr x.op).1.toNat 16 hrl.1 (by decide);have ht32:=zcd (zr x.op).1.toNat 32 hrl.1 (by decide);have ht64:=zcd (zr x.op).1.toNat 64 hrl.1 (by decide);have ht128:=zcd (zr x.op).1.toNat 128 hrl.1 (by decide);have HDST:=zzH hw.dst;clear hwr hx hw hrows hb0 hxw hrl hop;generalize zd7 (zr x.op).1.toNat x=WW at *;generalize zm (zr x.op).1.toNat 1=q1 at *;generalize zm (zr x.op).1.toNat 2=q2 at *;generalize zm (zr x.op).1.toNat 4=q4 at *;generalize zm (zr x.op).1.toNat 8=q8 at *;generalize zm (zr x.op).1.toNat 16=q16 at *;generalize zm (zr x.op).1.toNat 32=q32 at *;generalize zm (zr x.op).1.toNat 64=q64 at *;generalize zm (zr x.op).1.toNat 128=q128 at *;generalize(zr x.op).1.toNat&&&1=y1 at *;generalize(zr x.op).1.toNat&&&2=y2 at *;generalize(zr x.op).1.toNat&&&4=y4 at *;generalize(zr x.op).1.toNat&&&8=y8 at *;generalize(zr x.op).1.toNat&&&16=y16 at *;generalize(zr x.op).1.toNat&&&32=y32 at *;generalize(zr x.op).1.toNat&&&64=y64 at *;generalize(zr x.op).1.toNat&&&128=y128 at *;generalize(zr x.op).1.toNat=h at *;generalize(zr x.op).2.1.toNat=l1 at *;generalize(zr x.op).2.2.toNat=l2 at *;obtain⟨a1,e1⟩:=ht1;have a1':bits .and .i64 (h:Int) 1=(y1:Int):=a1;clear a1;obtain⟨a2,e2⟩:=ht2;have a2':bits .and .i64 (h:Int) 2=(y2:Int):=a2;clear a2;obtain⟨a4,e4⟩:=ht4;have a4':bits .and .i64 (h:Int) 4=(y4:Int):=a4;clear a4;obtain⟨a8,e8⟩:=ht8;have a8':bits .and .i64 (h:Int) 8=(y8:Int):=a8;clear a8;obtain⟨a16,e16⟩:=ht16;have a16':bits .and .i64 (h:Int) 16=(y16:Int):=a16;clear a16;obtain⟨a32,e32⟩:=ht32;have a32':bits .and .i64 (h:Int) 32=(y32:Int):=a32;clear a32;obtain⟨a64,e64⟩:=ht64;have a64':bits .and .i64 (h:Int) 64=(y64:Int):=a64;clear a64;obtain⟨a128,e128⟩:=ht128;have a128':bits .and .i64 (h:Int) 128=(y128:Int):=a128;clear a128;go_in;go_upto_region 1 with(go_at_call 69;refine hro.mono ?_;rintro e w6 ⟨rfl,hb6⟩);clear hro;have HWa:=zzH (hb6.alloc hb6.size (.cells #[.int .i64 (h:Nat),.int .i64 (l1:Nat),.int .i64 (l2:Nat)] 131));have HSa:Hid (Stays w (w6.alloc (.cells #[.int .i64 (h:Nat),.int .i64 (l1:Nat),.int .i64 (l2:Nat)] 131))):=zzH (((Stays.refl w).below hb6).alloc _);have HRa:=zzH (zzF w6 (.cells #[.int .i64 (h:Nat),.int .i64 (l1:Nat),.int .i64 (l2:Nat)] 131));clear hb6;generalize w6.alloc (.cells #[.int .i64 (h:Nat),.int .i64 (l1:Nat),.int .i64 (l2:Nat)] 131)=Wa at *;generalize w6.heap.size=R at *;have HXa:Hid (Below w0.heap.size w0 Wa):=zzH (HB0.out.trans (HWa.out.mono HBB.out));have HWRa:=zzH (HWR.out.next HWa.out);have HBa:Hid (w0.heap.size<=Wa.heap.size):=zzH (zzY HBB.out HWa.out.size);clear c0 hbl HWR;have hxa:=HX.out.below HXa.out;have c0:=hxa.c0;have hbl:=hxa.lt;clear hxa;have HW0:Hid (l++WW=(l++zf x.op.toNat)++(opt q1 (zbG x.dst)++(opt q2 ((zf x.src.length++zcV x.src))++(opt q4 (zf x.n.toNat)++(opt q8 (zD x.name)++(opt q16 ((zf x.cases.length++zba x.cases))++(opt q32 ((zf x.segs.length++zX x.segs))++(opt q64 (zf x.to.toNat)++(opt q128 (zf x.live.toNat)++([]:List UInt8)))))))))):=zzH (by rw [HE.out,zzq4]);generalize hWW:l++WW=W at *;have HWW:=zzH hWW;clear hWW;have hvl:=zv x.op.toNat;go_upto_if 29 with(go_at_call 34;refine(zbt w0.heap.size r l x.op _ HWRa.out HW.out.op0 (Int.le_trans HW.out.op1 (by decide)) (by omega)).mono ?_;rintro e w1 ⟨rfl,h1,hb1,hs1⟩;have hcR:w1.cell? ⟨R,0,none⟩=some (.int .i64 (h:Nat)):=by rw [zzq2 _ _ _ _ _ _ (hs1 _ _ _ _ HRa.out (by decide) (by decide))];rfl);refine zzK3 h1 hb1 hs1 fun HH1 HHB1 HHS1=>?_;clear h1 hb1 hs1 c0;obtain⟨p,HP,hpl,HWp,HBp,HSp⟩: ∃p:List UInt8,Hid (W=p++(opt q1 (zbG x.dst)++(opt q2 ((zf x.src.length++zcV x.src))++(opt q4 (zf x.n.toNat)++(opt q8 (zD x.name)++(opt q16 ((zf x.cases.length++zba x.cases))++(opt q32 ((zf x.segs.length++zX x.segs))++(opt q64 (zf x.to.toNat)++(opt q128 (zf x.live.toNat)++([]:List UInt8))))))))))/\p.length<=l.length+110/\Hid (WrAt w0.heap.size r p w1)/\Hid (Below w0.heap.size Wa w1)/\Hid (Stays Wa w1):=⟨_,HW0,by rw [zzq1];omega,HH1,HHB1,HHS1⟩;clear HW0 HH1 HHB1 HHS1 hcR;go_cut [] (fun wx=> ∃p:List UInt8,Hid (W=p++(opt q2 ((zf x.src.length++zcV x.src))++(opt q4 (zf x.n.toNat)++(opt q8 (zD x.name)++(opt q16 ((zf x.cases.length++zba x.cases))++(opt q32 ((zf x.segs.length++zX x.segs))++(opt q64 (zf x.to.toNat)++(opt q128 (zf x.live.toNat)++([]:List UInt8)))))))))/\p.length<=l.length+50110/\Hid (WrAt w0.heap.size r p wx)/\Hid (Below w0.heap.size Wa wx)/\Hid (Stays Wa wx))
 case first=>
  cases q1 with
  |false=>
   exact zz113
  |true=>
   have hxc:=HX.out.below (HXa.out.trans HBp.out);have k1:=hxc.c1;have k2:=hxc.c2;have hbl2:=hxc.lt;clear hxc;have hd:=HDST.out rfl;have hal:=zcW x.dst;go_wp2_with (go_at_call 78;refine(zgM w0.heap.size r p x.dst _ HWp.out (by omega) hd.n0 (Int.le_trans hd.n1 (by decide)) hd.k0 hd.k1).mono ?_;rintro e w2 ⟨rfl,h2,hb2,hs2⟩);go_meet
   case rel=>exact⟨p++zbG x.dst,zzH (by rw [HP.out,zeG];rw [zzq4]),by(try simp only [zzq1]);omega,zzH h2,zzH (HBp.out.trans hb2),zzH (HSp.out.trans hs2)⟩
 case rest=>
  obtain⟨p,HP,hpl,HWp,HBp,HSp⟩:=hcut;have hcR:wc.cell? ⟨R,0,none⟩=some (.int .i64 (h:Nat)):=by rw [zzq2 _ _ _ _ _ _ (HSp.out _ _ _ _ HRa.out (by decide) (by decide))];rfl
  go_upto_if 39 with fail;clear hcR;go_cut [] (fun wx=> ∃p:List UInt8,Hid (W=p++(opt q4 (zf x.n.toNat)++(opt q8 (zD x.name)++(opt q16 ((zf x.cases.length++zba x.cases))++(opt q32 ((zf x.segs.length++zX x.segs))++(opt q64 (zf x.to.toNat)++(opt q128 (zf x.live.toNat)++([]:List UInt8))))))))/\p.length<=l.length+100110/\Hid (WrAt w0.heap.size r p wx)/\Hid (Below w0.heap.size Wa wx)/\Hid (Stays Wa wx))
  case first=>
   cases q2 with
   |false=>
    exact zz113
   |true=>
    have hxc:=HX.out.below (HXa.out.trans HBp.out);have kc:=hxc.c3;have hbl2:=hxc.lt;clear hxc;have hlen:=HW.out.srcLen;have hvl:=zv x.src.length;go_wp2_with (go_at_call 34;refine(zbt w0.heap.size r p (x.src.length:Int) _ HWp.out (by omega) (by omega) (by omega)).mono ?_;rintro e w2 ⟨rfl,h2,hb2,hs2⟩;have kc2:=(HX.out.below (HXa.out.trans (HBp.out.trans hb2))).c3);rw [zzq16]at h2;have HQ:Hid (W=(p++zf x.src.length)++(zcV (x.src.drop 0)++(opt q4 (zf x.n.toNat)++(opt q8 (zD x.name)++(opt q16 ((zf x.cases.length++zba x.cases))++(opt q32 ((zf x.segs.length++zX x.segs))++(opt q64 (zf x.to.toNat)++(opt q128 (zf x.live.toNat)++([]:List UInt8))))))))):=zzH (by rw [HP.out,zeG,List.drop_zero];simp only [zzq4]);have hpl2:(p++zf x.src.length).length<=p.length+10:=by rw [zzq1];omega
    generalize p++zf x.src.length=p2 at *;refine zzK3 (HBp.out.trans hb2) (HSp.out.trans hs2) h2 fun HB2 HS2 HW2=>?_;clear hb2 hs2 h2 kc;go_loopw [52] (fun iv wr=> ∃(k:Nat) (p':List UInt8),k<=x.src.length/\iv= .int .i64 k/\Hid (W=p'++(zcV (x.src.drop k)++(opt q4 (zf x.n.toNat)++(opt q8 (zD x.name)++(opt q16 ((zf x.cases.length++zba x.cases))++(opt q32 ((zf x.segs.length++zX x.segs))++(opt q64 (zf x.to.toNat)++(opt q128 (zf x.live.toNat)++([]:List UInt8)))))))))/\p'.length<=p2.length+10*k/\Hid (WrAt w0.heap.size r p' wr)/\Hid (Below w0.heap.size Wa wr)/\Hid (Stays Wa wr)) (fun iv _=>x.src.length-(intOf iv).toNat)
    case atStart=>exact⟨0,p2,zzZ _,rfl,HQ,by omega,HW2,HB2,HS2⟩
    case round=>
     obtain⟨k,p',hk,rfl,HK,hpk,HWk,HBk,HSk⟩:=hrel;rename World=>wr
     by_cases hlt:k<x.src.length
     ·obtain⟨b2,off,hao,hb2,q0,q1,r0,r1⟩:=(HX.out.below (HXa.out.trans HBk.out)).src.arg hlt
      subst hao;have HST:=zzH (zoJ x.src hlt);have HAW:=zzH (HW.out.src _ (zzM hlt));generalize x.src[k]=a at *;have hba:=(zzR wr.heap.size wr).alloc (zzL _) (.cells #[.int .i64 a.kind,.int .i64 a.n] 31);have hsa:=(Stays.refl wr).alloc (.cells #[.int .i64 a.kind,.int .i64 a.n] 31);have hal:=zcW a;have HBA:=zzH hba;have HSA:=zzH hsa;clear hba hsa;go_wp2_with (go_at_call 78;refine(zgM w0.heap.size r p' a _ (HWk.out.next HBA.out) (by omega) HAW.out.n0 (Int.le_trans HAW.out.n1 (by decide)) HAW.out.k0 HAW.out.k1).mono ?_;rintro e w3 ⟨rfl,h3,hb3,hs3⟩);go_roundw
      case rel=>exact⟨k+1,p'++zbG a,by omega,by go_num,zzH (by rw [HK.out,HST.out];simp only [zzq4]),by rw [zzq1];omega,zzH h3,zzH ((HBk.out.trans (HBA.out.mono (zzY HBa.out HBk.out.size))).trans hb3),zzH ((HSk.out.trans HSA.out).trans hs3)⟩
      case measure=>simp [intOf];omega
     ·have HZ:Hid (W=p'++(opt q4 (zf x.n.toNat)++(opt q8 (zD x.name)++(opt q16 ((zf x.cases.length++zba x.cases))++(opt q32 ((zf x.segs.length++zX x.segs))++(opt q64 (zf x.to.toNat)++(opt q128 (zf x.live.toNat)++([]:List UInt8)))))))):=zzH (by rw [HK.out,zzq8 (by omega)];rfl)
      exact zz114
  case rest=>
   obtain⟨p,HP,hpl,HWp,HBp,HSp⟩:=hcut;have hcR:wc.cell? ⟨R,0,none⟩=some (.int .i64 (h:Nat)):=by rw [zzq2 _ _ _ _ _ _ (HSp.out _ _ _ _ HRa.out (by decide) (by decide))];rfl
   go_upto_if 63 with fail;clear hcR;go_cut [] (fun wx=> ∃p:List UInt8,Hid (W=p++(opt q8 (zD x.name)++(opt q16 ((zf x.cases.length++zba x.cases))++(opt q32 ((zf x.segs.length++zX x.segs))++(opt q64 (zf x.to.toNat)++(opt q128 (zf x.live.toNat)++([]:List UInt8)))))))/\p.length<=l.length+150110/\Hid (WrAt w0.heap.size r p wx)/\Hid (Below w0.heap.size Wa wx)/\Hid (Stays Wa wx))
   case first=>
    cases q4 with
    |false=>
     exact zz113
    |true=>
     have hxc:=HX.out.below (HXa.out.trans HBp.out);have k5:=hxc.c5;have hbl2:=hxc.lt;clear hxc;have hal:=zv x.n.toNat;go_wp2_with (go_at_call 34;refine(zbt w0.heap.size r p x.n _ HWp.out HW.out.n0 (Int.le_trans HW.out.n1 (by decide)) (by omega)).mono ?_;rintro e w2 ⟨rfl,h2,hb2,hs2⟩);go_meet
     case rel=>exact⟨p++zf x.n.toNat,zzH (by rw [HP.out,zeG];rw [zzq4]),by(try simp only [zzq1]);omega,(zzH h2),(zzH (HBp.out.trans hb2)),(zzH (HSp.out.trans hs2))⟩
   case rest=>
    obtain⟨p,HP,hpl,HWp,HBp,HSp⟩:=hcut;have hcR:wc.cell? ⟨R,0,none⟩=some (.int .i64 (h:Nat)):=by rw [zzq2 _ _ _ _ _ _ (HSp.out _ _ _ _ HRa.out (by decide) (by decide))];rfl
    go_upto_if 73 with fail;clear hcR;go_cut [] (fun wx=> ∃p:List UInt8,Hid (W=p++(opt q16 ((zf x.cases.length++zba x.cases))++(opt q32 ((zf x.segs.length++zX x.segs))++(opt q64 (zf x.to.toNat)++(opt q128 (zf x.live.toNat)++([]:List UInt8))))))/\p.length<=l.length+200110/\Hid (WrAt w0.heap.size r p wx)/\Hid (Below w0.heap.size Wa wx)/\Hid (Stays Wa wx))
    case first=>
     cases q8 with
     |false=>
      exact zz113
     |true=>
      have hxc:=HX.out.below (HXa.out.trans HBp.out);have k7:=hxc.c7;have hbl2:=hxc.lt;clear hxc;have hal:=zcC x.name;have hns:=HW.out.name;go_wp2_with (go_at_call 33;refine(zf6 w0.heap.size r p x.name _ HWp.out (by omega) (by omega)).mono ?_;rintro e w2 ⟨rfl,h2,hb2,hs2⟩);go_meet
      case rel=>exact⟨p++zD x.name,zzH (by rw [HP.out,zeG];rw [zzq4]),by(try simp only [zzq1]);omega,zzH h2,zzH (HBp.out.trans hb2),zzH (HSp.out.trans hs2)⟩
    case rest=>
     obtain⟨p,HP,hpl,HWp,HBp,HSp⟩:=hcut;have hcR:wc.cell? ⟨R,0,none⟩=some (.int .i64 (h:Nat)):=by rw [zzq2 _ _ _ _ _ _ (HSp.out _ _ _ _ HRa.out (by decide) (by decide))];rfl
     go_upto_if 83 with fail;clear hcR;go_cut [] (fun wx=> ∃p:List UInt8,Hid (W=p++(opt q32 ((zf x.segs.length++zX x.segs))++(opt q64 (zf x.to.toNat)++(opt q128 (zf x.live.toNat)++([]:List UInt8)))))/\p.length<=l.length+250110/\Hid (WrAt w0.heap.size r p wx)/\Hid (Below w0.heap.size Wa wx)/\Hid (Stays Wa wx))
     case first=>
      cases q16 with
      |false=>
       exact zz113
      |true=>
       have hxc:=HX.out.below (HXa.out.trans HBp.out);have kc:=hxc.c8;have hbl2:=hxc.lt;clear hxc;have hlen:=HW.out.casesLen;have hvl:=zv x.cases.length;go_wp2_with (go_at_call 34;refine(zbt w0.heap.size r p (x.cases.length:Int) _ HWp.out (by omega) (by omega) (by omega)).mono ?_;rintro e w2 ⟨rfl,h2,hb2,hs2⟩;have kc2:=(HX.out.below (HXa.out.trans (HBp.out.trans hb2))).c8);rw [zzq16]at h2;have HQ:Hid (W=(p++zf x.cases.length)++(zba (x.cases.drop 0)++(opt q32 ((zf x.segs.length++zX x.segs))++(opt q64 (zf x.to.toNat)++(opt q128 (zf x.live.toNat)++([]:List UInt8)))))):=zzH (by rw [HP.out,zeG,List.drop_zero];simp only [zzq4]);have hpl2:(p++zf x.cases.length).length<=p.length+10:=by rw [zzq1];omega
       generalize p++zf x.cases.length=p2 at *;refine zzK3 (HBp.out.trans hb2) (HSp.out.trans hs2) h2 fun HB2 HS2 HW2=>?_;clear hb2 hs2 h2 kc;go_loopw [96] (fun iv wr=> ∃(k:Nat) (p':List UInt8),k<=x.cases.length/\iv= .int .i64 k/\Hid (W=p'++(zba (x.cases.drop k)++(opt q32 ((zf x.segs.length++zX x.segs))++(opt q64 (zf x.to.toNat)++(opt q128 (zf x.live.toNat)++([]:List UInt8))))))/\p'.length<=p2.length+20*k/\Hid (WrAt w0.heap.size r p' wr)/\Hid (Below w0.heap.size Wa wr)/\Hid (Stays Wa wr)) (fun iv _=>x.cases.length-(intOf iv).toNat)
       case atStart=>exact⟨0,p2,zzZ _,rfl,HQ,by omega,HW2,HB2,HS2⟩
       case round=>
        obtain⟨k,p',hk,rfl,HK,hpk,HWk,HBk,HSk⟩:=hrel;rename World=>wr
        by_cases hlt:k<x.cases.length
        ·obtain⟨b2,off,hao,hb2,q0,q1,r0,r1⟩:=(HX.out.below (HXa.out.trans HBk.out)).cases.case hlt
         subst hao;have HST:=zzH (zls x.cases hlt);have HAW:=zzH (HW.out.cases _ (zzM hlt));generalize x.cases[k]=a at *;have hba:=(zzR wr.heap.size wr).alloc (zzL _) (.cells #[.int .i64 a.lit,.int .i64 a.to] 119);have hsa:=(Stays.refl wr).alloc (.cells #[.int .i64 a.lit,.int .i64 a.to] 119);have hLc:=zzF wr (.cells #[.int .i64 a.lit,.int .i64 a.to] 119);have hal:=zv a.lit.toNat;have hal2:=zv a.to.toNat;refine zzK3 hba hsa hLc fun HBA HSA HLC=>?_;clear hba hsa hLc;go_wp2_with fail;refine(zbt w0.heap.size r p' a.lit _ (HWk.out.next HBA.out) HAW.out.1 (Int.le_trans HAW.out.2.1 (by decide)) (by omega)).mono ?_;rintro e w3 ⟨rfl,h3,hb3,hs3⟩;have g1:w3.cell? ⟨wr.heap.size,1,none⟩=some (.int .i64 a.to):=by rw [zzq2 _ _ _ _ _ _ (hs3 _ _ _ _ HLC.out (by decide) (by decide))];rfl
         refine zzK3 h3 hb3 hs3 fun H3 HB3 HS3=>?_;clear h3 hb3 hs3;go_wp2_with fail;refine(zbt w0.heap.size r (p'++zf a.lit.toNat) a.to _ H3.out HAW.out.2.2.1 (Int.le_trans HAW.out.2.2.2 (by decide)) (by rw [zzq1];omega)).mono ?_;rintro e w4 ⟨rfl,h4,hb4,hs4⟩;go_wp2_with fail;go_roundw
         case rel=>exact⟨k+1,(p'++zf a.lit.toNat)++zf a.to.toNat,by omega,by go_num,zzH (by rw [HK.out,HST.out];simp only [zzq4]),by rw [zzq1,zzq1];omega,zzH h4,zzH (((HBk.out.trans (HBA.out.mono (zzY HBa.out HBk.out.size))).trans HB3.out).trans hb4),zzH (((HSk.out.trans HSA.out).trans HS3.out).trans hs4)⟩
         case measure=>simp [intOf];omega
        ·have HZ:Hid (W=p'++(opt q32 ((zf x.segs.length++zX x.segs))++(opt q64 (zf x.to.toNat)++(opt q128 (zf x.live.toNat)++([]:List UInt8))))):=zzH (by rw [HK.out,zzq8 (by omega)];rfl)
         exact zz114
     case rest=>
      obtain⟨p,HP,hpl,HWp,HBp,HSp⟩:=hcut;have hcR:wc.cell? ⟨R,0,none⟩=some (.int .i64 (h:Nat)):=by rw [zzq2 _ _ _ _ _ _ (HSp.out _ _ _ _ HRa.out (by decide) (by decide))];rfl
      go_upto_if 112 with fail;clear hcR;go_cut [] (fun wx=> ∃p:List UInt8,Hid (W=p++(opt q64 (zf x.to.toNat)++(opt q128 (zf x.live.toNat)++([]:List UInt8))))/\p.length<=l.length+300110/\Hid (WrAt w0.heap.size r p wx)/\Hid (Below w0.heap.size Wa wx)/\Hid (Stays Wa wx))
      case first=>
       cases q32 with
       |false=>
        exact zz113
       |true=>
        have hxc:=HX.out.below (HXa.out.trans HBp.out);have kc:=hxc.c9;have hbl2:=hxc.lt;clear hxc;have hlen:=HW.out.segsLen;have hvl:=zv x.segs.length;go_wp2_with (go_at_call 34;refine(zbt w0.heap.size r p (x.segs.length:Int) _ HWp.out (by omega) (by omega) (by omega)).mono ?_;rintro e w2 ⟨rfl,h2,hb2,hs2⟩;have kc2:=(HX.out.below (HXa.out.trans (HBp.out.trans hb2))).c9);rw [zzq16]at h2;have HQ:Hid (W=(p++zf x.segs.length)++(zX (x.segs.drop 0)++(opt q64 (zf x.to.toNat)++(opt q128 (zf x.live.toNat)++([]:List UInt8))))):=zzH (by rw [HP.out,zeG,List.drop_zero];simp only [zzq4]);have hpl2:(p++zf x.segs.length).length<=p.length+10:=by rw [zzq1];omega
        generalize p++zf x.segs.length=p2 at *;refine zzK3 (HBp.out.trans hb2) (HSp.out.trans hs2) h2 fun HB2 HS2 HW2=>?_;clear hb2 hs2 h2 kc;go_loopw [125] (fun iv wr=> ∃(k:Nat) (p':List UInt8),k<=x.segs.length/\iv= .int .i64 k/\Hid (W=p'++(zX (x.segs.drop k)++(opt q64 (zf x.to.toNat)++(opt q128 (zf x.live.toNat)++([]:List UInt8)))))/\p'.length<=p2.length+40*k/\Hid (WrAt w0.heap.size r p' wr)/\Hid (Below w0.heap.size Wa wr)/\Hid (Stays Wa wr)) (fun iv _=>x.segs.length-(intOf iv).toNat)
        case atStart=>exact⟨0,p2,zzZ _,rfl,HQ,by omega,HW2,HB2,HS2⟩
        case round=>
         obtain⟨k,p',hk,rfl,HK,hpk,HWk,HBk,HSk⟩:=hrel;rename World=>wr
         by_cases hlt:k<x.segs.length
         ·obtain⟨b2,off,hao,hb2,q0,q1,q2,q3,q4,q5,r0,r1,r2,r3,r4⟩:=(HX.out.below (HXa.out.trans HBk.out)).segs.seg hlt
          subst hao;have HST:=zzH (zmH x.segs hlt);have HAW:=zzH (HW.out.segs _ (zzM hlt));generalize x.segs[k]=a at *;have hba:=(zzR wr.heap.size wr).alloc (zzL _) (.cells #[.int .i64 a.type,.int .i64 a.val.kind,.int .i64 a.val.n,.int .i64 a.size.kind,.int .i64 a.size.n,.bool a.little] 121);have hsa:=(Stays.refl wr).alloc (.cells #[.int .i64 a.type,.int .i64 a.val.kind,.int .i64 a.val.n,.int .i64 a.size.kind,.int .i64 a.size.n,.bool a.little] 121);have hLc:=zzF wr (.cells #[.int .i64 a.type,.int .i64 a.val.kind,.int .i64 a.val.n,.int .i64 a.size.kind,.int .i64 a.size.n,.bool a.little] 121);have hal:=zv a.type.toNat;have hal2:=zcW a.val;have hal3:=zcW a.size;have hal4:=zeM a.little;refine zzK3 hba hsa hLc fun HBA HSA HLC=>?_;clear hba hsa hLc;go_wp2_with fail;refine(zbt w0.heap.size r p' a.type _ (HWk.out.next HBA.out) HAW.out.1 (Int.le_trans HAW.out.2.1 (by decide)) (by omega)).mono ?_;rintro e w3 ⟨rfl,h3,hb3,hs3⟩;refine zzK4 (hs3 _ _ _ _ HLC.out (by decide) (by decide)) h3 hb3 hs3 fun HL3 H3 HB3 HS3=>?_;clear h3 hb3 hs3;have g1:w3.cell? ⟨wr.heap.size,1,none⟩=some (.int .i64 a.val.kind):=by rw [zzq2 _ _ _ _ _ _ HL3.out];rfl
          have g2:w3.cell? ⟨wr.heap.size,2,none⟩=some (.int .i64 a.val.n):=by rw [zzq2 _ _ _ _ _ _ HL3.out];rfl
          go_wp2_with fail;refine(zgM w0.heap.size r (p'++zf a.type.toNat) a.val _ H3.out (by rw [zzq1];omega) HAW.out.2.2.1.n0 (Int.le_trans HAW.out.2.2.1.n1 (by decide)) HAW.out.2.2.1.k0 HAW.out.2.2.1.k1).mono ?_;rintro e w4 ⟨rfl,h4,hb4,hs4⟩;refine zzK4 (hs4 _ _ _ _ HL3.out (by decide) (by decide)) h4 hb4 hs4 fun HL4 H4 HB4 HS4=>?_;clear h4 hb4 hs4 g1 g2;have g3:w4.cell? ⟨wr.heap.size,3,none⟩=some (.int .i64 a.size.kind):=by rw [zzq2 _ _ _ _ _ _ HL4.out];rfl
          have g4:w4.cell? ⟨wr.heap.size,4,none⟩=some (.int .i64 a.size.n):=by rw [zzq2 _ _ _ _ _ _ HL4.out];rfl
          go_wp2_with fail;refine(zgM w0.heap.size r ((p'++zf a.type.toNat)++zbG a.val) a.size _ H4.out (by rw [zzq1,zzq1];omega) HAW.out.2.2.2.n0 (Int.le_trans HAW.out.2.2.2.n1 (by decide)) HAW.out.2.2.2.k0 HAW.out.2.2.2.k1).mono ?_;rintro e w5 ⟨rfl,h5,hb5,hs5⟩;refine zzK4 (hs5 _ _ _ _ HL4.out (by decide) (by decide)) h5 hb5 hs5 fun HL5 H5 HB5 HS5=>?_;clear h5 hb5 hs5 g3 g4;have g5:w5.cell? ⟨wr.heap.size,5,none⟩=some (.bool a.little):=by rw [zzq2 _ _ _ _ _ _ HL5.out];rfl
          go_wp2_with fail;refine(zju w0.heap.size r (((p'++zf a.type.toNat)++zbG a.val)++zbG a.size) a.little _ H5.out (by rw [zzq1,zzq1,zzq1];omega)).mono ?_;rintro e w7 ⟨rfl,h7,hb7,hs7⟩;go_wp2_with fail;go_roundw
          case rel=>exact⟨k+1,(((p'++zf a.type.toNat)++zbG a.val)++zbG a.size)++zde a.little,by omega,by go_num,zzH (by rw [HK.out,HST.out];simp only [zzq4]),by simp only [zzq1];omega,zzH h7,zzH (((((HBk.out.trans (HBA.out.mono (zzY HBa.out HBk.out.size))).trans HB3.out).trans HB4.out).trans HB5.out).trans hb7),zzH (((((HSk.out.trans HSA.out).trans HS3.out).trans HS4.out).trans HS5.out).trans hs7)⟩
          case measure=>simp [intOf];omega
         ·have HZ:Hid (W=p'++(opt q64 (zf x.to.toNat)++(opt q128 (zf x.live.toNat)++([]:List UInt8)))):=zzH (by rw [HK.out,zzq8 (by omega)];rfl)
          exact zz114
      case rest=>
       obtain⟨p,HP,hpl,HWp,HBp,HSp⟩:=hcut;have hcR:wc.cell? ⟨R,0,none⟩=some (.int .i64 (h:Nat)):=by rw [zzq2 _ _ _ _ _ _ (HSp.out _ _ _ _ HRa.out (by decide) (by decide))];rfl
       go_upto_if 149 with fail;clear hcR;go_cut [] (fun wx=> ∃p:List UInt8,Hid (W=p++(opt q128 (zf x.live.toNat)++([]:List UInt8)))/\p.length<=l.length+350110/\Hid (WrAt w0.heap.size r p wx)/\Hid (Below w0.heap.size Wa wx)/\Hid (Stays Wa wx))
       case first=>
        cases q64 with
        |false=>
         exact zz113
        |true=>
         have hxc:=HX.out.below (HXa.out.trans HBp.out);have k4:=hxc.c4;have hbl2:=hxc.lt;clear hxc;have hal:=zv x.to.toNat;go_wp2_with (go_at_call 34;refine(zbt w0.heap.size r p x.to _ HWp.out HW.out.to0 (Int.le_trans HW.out.to1 (by decide)) (by omega)).mono ?_;rintro e w2 ⟨rfl,h2,hb2,hs2⟩);go_meet
         case rel=>exact⟨p++zf x.to.toNat,zzH (by rw [HP.out,zeG];rw [zzq4]),by(try simp only [zzq1]);omega,(zzH h2),(zzH (HBp.out.trans hb2)),(zzH (HSp.out.trans hs2))⟩
       case rest=>
        obtain⟨p,HP,hpl,HWp,HBp,HSp⟩:=hcut;have hcR:wc.cell? ⟨R,0,none⟩=some (.int .i64 (h:Nat)):=by rw [zzq2 _ _ _ _ _ _ (HSp.out _ _ _ _ HRa.out (by decide) (by decide))];rfl
        go_upto_if 159 with fail;clear hcR
        cases q128 with
        |false=>
         go_wp2_with fail;go_end0;exact⟨rfl,by have h:=HP.out;rw [zt2,List.append_nil]at h;rw [HWW.out,h];exact HWp.out,(HWa.out.mono HBB.out).trans HBp.out,HSa.out.trans HSp.out⟩
        |true=>
         have hxc:=HX.out.below (HXa.out.trans HBp.out);have k6:=hxc.c6;have hbl2:=hxc.lt;clear hxc;have hal:=zv x.live.toNat;go_wp2_with (go_at_call 34;refine(zbt w0.heap.size r p x.live _ HWp.out HW.out.live0 (Int.le_trans HW.out.live1 (by decide)) (by omega)).mono ?_;rintro e w2 ⟨rfl,h2,hb2,hs2⟩);go_end0;exact⟨rfl,by have h:=HP.out;rw [zeG,List.append_nil]at h;rw [HWW.out,h];exact(zzH h2).out,(HWa.out.mono HBB.out).trans (zzH (HBp.out.trans hb2)).out,HSa.out.trans (zzH (HSp.out.trans hs2)).out⟩
def zbw (x:RIns):List UInt8:=zd7 (zr x.op).1.toNat x
def zbO (enc:Tm->ByteArray) (u:RUnit):List UInt8:=zD u.mdl++(zf u.vsn.toNat++(zf u.lits.length++(u.lits.flatMap (fun t=>zD (enc t))++(zf u.funcs.length++(u.funcs.flatMap zbY++(zf u.funs.length++(u.funs.flatMap zbW++(zf u.code.length++(u.code.flatMap zbw++ [])))))))))
theorem zf3 {α:Type} (g:α->List UInt8) (l:List α) {k:Nat} (h:k<l.length):(l.drop k).flatMap g=g l[k]++(l.drop (k+1)).flatMap g:=by
 rw [List.drop_eq_getElem_cons h];rfl
theorem zfO (n:Nat):zf n≠ []:=by
 show zb3 (9+1) n≠ [];rw [zb3];split<;>simp
theorem zh4 (s:ByteArray):zD s≠ []:=fun h=>zfO s.size (List.append_eq_nil_iff.1 h).1
theorem zqT (enc:Tm->ByteArray) (u:RUnit):zbO enc u≠ []:=fun h=>zh4 u.mdl (List.append_eq_nil_iff.1 h).1
theorem zti {w:World} {B:Nat} {bv:Value} {l:List UInt8} (h:w.ownsRow B 5 1 bv l.length (zo l)) (hne:l≠ []):(convert 65 9 bv).run Tryz.prog w= .ok (.string ⟨l.toArray⟩) w:=by
 rcases h.2 with⟨_,h0⟩|⟨g,cap,cur,rfl,_,hg,hc,_,hsz,htk⟩
 ·exact absurd (zzQ h0) hne
 ·refine run_convert_bytes_back (P:=Tryz.prog) w 65 9 5 ⟨g,0,none⟩ cap l Tryz.underlying65 Tryz.underlying5 Tryz.underlying9 (fun j hj=>?_)
  have ha:(⟨g,0,none⟩:Addr).add j=⟨g,j,none⟩:=by unfold Addr.add;split<;>simp_all
  rw [ha,zzq2 _ _ _ _ _ _ hg];have:(cur.toList.take (l.length*1))[j]?=(zo l)[j]?:=by rw [htk]
  rw [List.getElem?_take_of_lt (by omega)]at this;simp [zo,zzq11 hj]at this
  simpa using this
theorem znG (f:Nat) (u:RUnit):zZ f u=0\/zZ f u=6:=by
 unfold zZ;split
 ·split
  ·exact .inr rfl
  ·exact .inl rfl
 ·exact .inr rfl
def zo9 (enc:Tm->ByteArray) (f:Nat) (u:RUnit):Prop:= ∀t∈u.lits,(enc t).size<=10000000/\ ∀(ai:Option Addr) (c:Nat) (w:World),SlAt w 9 (TmAt w f) ai t.items->t.Ok ->
 Calls Tryz.prog 35 #[.agg #[.int .i64 t.kind,.int .i64 t.int,.int .i64 t.gen,.string t.name,.string t.func,.int .i64 t.arity,.slice ai t.items.length c,.string t.bytes,.int .i64 t.bits]] w fun e w'=>e= .returned (.tuple #[.string (enc t),.int .i64 0])/\Below w.heap.size w w'
theorem ztY (f:Nat) (u:RUnit) (lo fo go co:zzA) (lc fc gc cc:Nat) (w:World) (hrows:RowsAt w) (hsp:SpaceAt w) (hp:UP w u lo fo go co) (hlits:SlAt w 9 (TmAt w (f+1)) lo u.lits) (hcap: ∀t∈u.lits,(zG (f+1) t:Int)<=1152921504606846976) (hnm: ∀x∈u.code,x.name.size<=140737488355328) (hno:zZ (f+1) u=6):
  Calls Tryz.prog 14 #[.agg (zzu u lo lc fo fc go gc co cc)] w fun e w'=>e= .returned (.tuple #[.string ⟨#[]⟩,.int .i64 6])/\Below w.heap.size w w':=by
 unfold zzu;have hba:Below w.heap.size w (w.alloc (.cells (zzu u lo lc fo fc go gc co cc) 27)):=zzE _ _;have hck:=zhq f u lo fo go co lc fc gc cc _ (hrows.below hba) (hsp.below hba) (hp.below hba) (hlits.tms hba) hcap hnm;rw [hno]at hck;have HCK:=zzH hck;have HBA:=zzH hba;generalize zb6 (f+1) u=ci at *;clear hck hba hrows hsp hp hlits hcap hnm hno;go_in;go_wp2_with fail;refine HCK.out.mono ?_;rintro e w5 ⟨rfl,hb5⟩;go_wp2;go_ret2;exact⟨rfl,HBA.out.trans (hb5.mono HBA.out.size)⟩
theorem zta (enc:Tm->ByteArray) (f:Nat) (u:RUnit) (lo fo go co:zzA) (lc fc gc cc:Nat) (w:World) (hrows:RowsAt w) (hsp:SpaceAt w) (hp:UP w u lo fo go co) (hlits:SlAt w 9 (TmAt w (f+1)) lo u.lits) (hcap: ∀t∈u.lits,(zG (f+1) t:Int)<=1152921504606846976) (hnm: ∀x∈u.code,x.name.size<=140737488355328) (hwire:zo9 enc f u) (hyes:zZ (f+1) u=0):
  Calls Tryz.prog 14 #[.agg (zzu u lo lc fo fc go gc co cc)] w fun e w'=>e= .returned (.tuple #[.string ⟨(zbO enc u).toArray⟩,.int .i64 0])/\Below w.heap.size w w':=by
 unfold zzu;have hba:Below w.heap.size w (w.alloc (.cells (zzu u lo lc fo fc go gc co cc) 27)):=zzE _ _;have hbx:=zcJ w u lo fo go co lc fc gc cc;have hck:=zhq f u lo fo go co lc fc gc cc _ (hrows.below hba) (hsp.below hba) (hp.below hba) (hlits.tms hba) hcap hnm;obtain⟨htab,_,hins⟩:=zeF hyes;rw [hyes]at hck;refine zzK9 hck hba hbx (hrows.below hba) (hp.below hba) (hlits.tms hba) htab hins hwire fun HCK HBA HBX HRW HUP HLT HTB HIN HWI=>?_;have HE:Hid (zbO enc u= []++(zD u.mdl++(zf u.vsn.toNat++(zf u.lits.length++(u.lits.flatMap (fun t=>zD (enc t))++(zf u.funcs.length++(u.funcs.flatMap zbY++(zf u.funs.length++(u.funs.flatMap zbW++(zf u.code.length++(u.code.flatMap zbw++ []))))))))))):=zzH rfl;have HNE:=zzH (zqT enc u);generalize zbO enc u=W at *;generalize zb6 (f+1) u=ci at *;clear hck hba hbx hrows hsp hp hlits hcap hnm hyes htab hins hwire;go_in;go_wp2_with fail;generalize w.alloc (.cells (zzu u lo lc fo fc go gc co cc) 27)=Wa at *;generalize hB0:w.heap.size=B0 at *;have HBE:=zzH hB0;clear hB0;refine HCK.out.mono ?_;rintro e w5 ⟨rfl,hb5⟩;have HB5:=zzH hb5;have hux5:=HBX.out.below hb5;clear hb5;go_upto_region 5 with fail;have hst0:=zzF w5 (.cells #[.slice none 0 0] 89);have hb6:Below w5.heap.size w5 (w5.alloc (.cells #[.slice none 0 0] 89)):=zzE _ _;have HW0:Hid (WrAt w5.heap.size w5.heap.size [] (w5.alloc (.cells #[.slice none 0 0] 89))):=zzH ⟨zzL _,hb6.size,_,hst0,⟨rfl,.inl ⟨rfl,rfl⟩⟩,by intro h;cases h⟩;have HB6:=zzH hb6;have HUX:=zzH hux5;clear hst0 hb6 hux5;generalize w5.alloc (.cells #[.slice none 0 0] 89)=W6 at *;have HUP5:=zzH (HUP.out.below HB5.out);have HLT5:=zzH (HLT.out.tms HB5.out);have hux:=HUX.out.below HB6.out;have d0:=hux.c0;have hlt0:=HUX.out.lt;have hlt6:=hux.lt;clear hux;have hml:=zcC u.mdl;have hms:=HTB.out.mdl;have hv1:=zv u.vsn.toNat;have hv2:=zv u.lits.length;have hl1:=HTB.out.lits;go_wp2_with fail;refine(zf6 w5.heap.size w5.heap.size [] u.mdl _ HW0.out (by omega) (by decide)).mono ?_;rintro e w7 ⟨rfl,h7,hb7,hs7⟩;rw [List.nil_append]at h7;have HW7:=zzH h7;have HB7:=zzH (HB6.out.trans hb7);clear h7 hb7 hs7 d0;have d1:=(HUX.out.below HB7.out).c1;go_wp2_with fail;refine(zbt w5.heap.size w5.heap.size (zD u.mdl) u.vsn _ HW7.out (by have:=HTB.out.vsn0;omega) (by have:=HTB.out.vsn1;omega) (by omega)).mono ?_;rintro e w8 ⟨rfl,h8,hb8,hs8⟩;have HW8:=zzH h8;have HB8:=zzH (HB7.out.trans hb8);clear h8 hb8 hs8 d1;have d2:=(HUX.out.below HB8.out).c2;go_wp2_with fail;refine(zbt w5.heap.size w5.heap.size (zD u.mdl++zf u.vsn.toNat) (u.lits.length:Int) _ HW8.out (by omega) (by omega) (by rw [zzq1];omega)).mono ?_;rintro e w9 ⟨rfl,h9,hb9,hs9⟩;rw [zzq16]at h9;have hpl:((zD u.mdl++zf u.vsn.toNat)++zf u.lits.length).length<=100:=by rw [zzq1,zzq1];omega
 have HP:Hid (W=((zD u.mdl++zf u.vsn.toNat)++zf u.lits.length)++(u.lits.flatMap (fun t=>zD (enc t))++(zf u.funcs.length++(u.funcs.flatMap zbY++(zf u.funs.length++(u.funs.flatMap zbW++(zf u.code.length++(u.code.flatMap zbw++ [])))))))):=zzH (by rw [HE.out];simp only [zzq4,List.nil_append]);have HWp:=zzH h9;have HBp:=zzH (HB8.out.trans hb9);clear h9 hb9 hs9 d2 HW0 HB6 HW7 HB7 HW8 HB8 HE hlt6 hml hms;have d2:=(HUX.out.below HBp.out).c2;generalize(zD u.mdl++zf u.vsn.toNat)++zf u.lits.length=p at *;have hlen:=HTB.out.lits;have HQ:Hid (W=p++((u.lits.drop 0).flatMap (fun t=>zD (enc t))++(zf u.funcs.length++(u.funcs.flatMap zbY++(zf u.funs.length++(u.funs.flatMap zbW++(zf u.code.length++(u.code.flatMap zbw++ [])))))))):=zzH (by rw [HP.out,List.drop_zero]);clear HP;go_wp2_with fail;go_loopw [42] (fun iv wr=> ∃(k:Nat) (p':List UInt8),k<=u.lits.length/\iv= .int .i64 k/\Hid (W=p'++((u.lits.drop k).flatMap (fun t=>zD (enc t))++(zf u.funcs.length++(u.funcs.flatMap zbY++(zf u.funs.length++(u.funs.flatMap zbW++(zf u.code.length++(u.code.flatMap zbw++ []))))))))/\p'.length<=p.length+10000010*k/\Hid (WrAt w5.heap.size w5.heap.size p' wr)/\Hid (Below w5.heap.size w5 wr)) (fun iv _=>u.lits.length-(intOf iv).toNat)
 case atStart=>exact⟨0,p,zzZ _,rfl,HQ,by omega,HWp,HBp⟩
 case round=>
  obtain⟨k,p',hk,rfl,HK,hpk,HWk,HBk⟩:=hrel;rename World=>wr
  clear HWp HBp;by_cases hlt:k<u.lits.length
  ·obtain⟨b2,off,ai,ci2,hao,hb2,q0,q1,q2,q3,q4,q5,q6,q7,q8,hit,hok⟩:=(HLT5.out.tms HBk.out).tm hlt
   subst hao;have HST:=zzH (zf3 (fun t=>zD (enc t)) u.lits hlt);have hwt:=HWI.out _ (zzM hlt);generalize u.lits[k]=t at *;have hsz:=hwt.1;refine zzK3 hwt.2 hit hok fun HPT HIT HOK=>?_;clear hwt hit hok;have hba:=(zzR wr.heap.size wr).alloc (zzL _) (.cells #[.int .i64 t.kind,.int .i64 t.int,.int .i64 t.gen,.string t.name,.string t.func,.int .i64 t.arity,.slice ai t.items.length ci2,.string t.bytes,.int .i64 t.bits] 55);have HBA:=zzH hba;clear hba;go_wp2_with fail;refine(HPT.out ai ci2 _ (HIT.out.tms HBA.out) HOK.out).mono ?_;rintro e w10 ⟨rfl,hb10⟩;have HB10:=zzH (zd HBA.out hb10);clear hb10;have hal:=zcC (enc t);go_wp2_with fail;refine(zf6 w5.heap.size w5.heap.size p' (enc t) _ (HWk.out.next HB10.out) (by omega) (by omega)).mono ?_;rintro e w11 ⟨rfl,h11,hb11,hs11⟩;go_wp2_with fail;go_roundw
   case rel=>exact⟨k+1,p'++zD (enc t),by omega,by go_num,zzH (by rw [HK.out,HST.out];simp only [zzq4]),by rw [zzq1];omega,zzH h11,zzH ((HBk.out.trans (HB10.out.mono HBk.out.size)).trans hb11)⟩
   case measure=>simp [intOf];omega
  ·have HZ:Hid (W=p'++(zf u.funcs.length++(u.funcs.flatMap zbY++(zf u.funs.length++(u.funs.flatMap zbW++(zf u.code.length++(u.code.flatMap zbw++ []))))))):=zzH (by rw [HK.out,zzq8 (by omega)];rfl)
   have hnl:=zv u.funcs.length;have hz:=HTB.out.lits;have hzl:=HTB.out.funcs;have hp2:p'.length<=655350655450:=by omega
   have e3:=(HUX.out.below HBk.out).c3;go_wp2_with fail;refine(zbt w5.heap.size w5.heap.size p' (u.funcs.length:Int) _ HWk.out (by omega) (by omega) (by omega)).mono ?_;rintro e wn ⟨rfl,hn,hbn,hsn⟩;rw [zzq16]at hn;have HP:Hid (W=(p'++zf u.funcs.length)++(u.funcs.flatMap zbY++(zf u.funs.length++(u.funs.flatMap zbW++(zf u.code.length++(u.code.flatMap zbw++ [])))))):=zzH (by rw [HZ.out];simp only [zzq4]);have hpl1:(p'++zf u.funcs.length).length<=655350655460:=by rw [zzq1];omega
   have HWp:=zzH hn;have HBp:=zzH (HBk.out.trans hbn);have e4:=(HUX.out.below HBp.out).c3;clear hn hbn hsn e3 HZ HK hpk hpl hp2 hnl hz hzl HWk HBk;clear HQ hlen hk hlt;generalize hpq:p'++zf u.funcs.length=p1 at *;clear hpq;have hlen:=HTB.out.funcs;have HQ:Hid (W=p1++((u.funcs.drop 0).flatMap zbY++(zf u.funs.length++(u.funs.flatMap zbW++(zf u.code.length++(u.code.flatMap zbw++ [])))))):=zzH (by rw [HP.out,List.drop_zero]);clear HP;go_wp2_with fail;go_loopw [65] (fun iv wr=> ∃(k:Nat) (pp1:List UInt8),k<=u.funcs.length/\iv= .int .i64 k/\Hid (W=pp1++((u.funcs.drop k).flatMap zbY++(zf u.funs.length++(u.funs.flatMap zbW++(zf u.code.length++(u.code.flatMap zbw++ []))))))/\pp1.length<=p1.length+72*k/\Hid (WrAt w5.heap.size w5.heap.size pp1 wr)/\Hid (Below w5.heap.size w5 wr)) (fun iv _=>u.funcs.length-(intOf iv).toNat)
   case atStart=>exact⟨0,p1,zzZ _,rfl,HQ,by omega,HWp,HBp⟩
   case round=>
    obtain⟨k,pp1,hk,rfl,HK,hpk,HWk,HBk⟩:=hrel;rename World=>wr1
    clear HWp HBp;by_cases hlt:k<u.funcs.length
    ·obtain⟨b2,off,hao,hb2,q0,q1,q2,q3,r0,r1,r2⟩:=((HUP5.out.below HBk.out).funcs).func hlt
     subst hao;have HST:=zzH (zf3 zbY u.funcs hlt);have HAW:=zzH (HTB.out.func _ (zzM hlt));clear r0 r1 r2;generalize u.funcs[k]=a at *;have hba:=(zzR wr1.heap.size wr1).alloc (zzL _) (.cells #[.string a.name,.int .i64 a.arity,.bool a.pub,.int .i64 a.entry] 57);have hLc:=zzF wr1 (.cells #[.string a.name,.int .i64 a.arity,.bool a.pub,.int .i64 a.entry] 57);have HBA:=zzH hba;have HL1:=zzH hLc;clear hba hLc;have H1:=zzH (HWk.out.next HBA.out);have hal1:=zcC a.name;have hal2:=zv a.arity.toNat;have hal3:=zeM a.pub;have hal4:=zv a.entry.toNat;have hns:=HAW.out.1;go_wp2_with fail;refine(zf6 w5.heap.size w5.heap.size pp1 a.name _ H1.out (by omega) (by omega)).mono ?_;rintro e x2 ⟨rfl,h2,hbb2,hs2⟩;refine zzK3 h2 hbb2 (hs2 _ _ _ _ HL1.out (by decide) (by decide)) fun H2 HB2 HL2=>?_;clear h2 hbb2 hs2;have g1:x2.cell? ⟨wr1.heap.size,1,none⟩=some (.int .i64 a.arity):=by rw [zzq2 _ _ _ _ _ _ HL2.out];rfl
     go_wp2_with fail;refine(zbt w5.heap.size w5.heap.size (pp1++zD a.name) a.arity _ H2.out HAW.out.2.1 (Int.le_trans HAW.out.2.2.1 (by decide)) (by(try simp only [zzq1]);omega)).mono ?_;rintro e x3 ⟨rfl,h3,hb3,hs3⟩;refine zzK4 h3 hb3 hs3 (hs3 _ _ _ _ HL2.out (by decide) (by decide)) fun H3 HB3 HS3 HL3=>?_;clear h3 hb3 hs3;clear g1;have g2:x3.cell? ⟨wr1.heap.size,2,none⟩=some (.bool a.pub):=by rw [zzq2 _ _ _ _ _ _ HL3.out];rfl
     go_wp2_with fail;refine(zju w5.heap.size w5.heap.size ((pp1++zD a.name)++zf a.arity.toNat) a.pub _ H3.out (by(try simp only [zzq1]);omega)).mono ?_;rintro e x4 ⟨rfl,h4,hb4,hs4⟩;refine zzK4 h4 hb4 hs4 (hs4 _ _ _ _ HL3.out (by decide) (by decide)) fun H4 HB4 HS4 HL4=>?_;clear h4 hb4 hs4;clear g2;have g3:x4.cell? ⟨wr1.heap.size,3,none⟩=some (.int .i64 a.entry):=by rw [zzq2 _ _ _ _ _ _ HL4.out];rfl
     go_wp2_with fail;refine(zbt w5.heap.size w5.heap.size (((pp1++zD a.name)++zf a.arity.toNat)++zde a.pub) a.entry _ H4.out HAW.out.2.2.2.1 (Int.le_trans HAW.out.2.2.2.2 (by decide)) (by(try simp only [zzq1]);omega)).mono ?_;rintro e x5 ⟨rfl,h5,hb5,hs5⟩;go_wp2_with fail;go_roundw
     case rel=>exact⟨k+1,(((pp1++zD a.name)++zf a.arity.toNat)++zde a.pub)++zf a.entry.toNat,by omega,by go_num,zzH (by rw [HK.out,HST.out];unfold zbY;simp only [zzq4]),by simp only [zzq1];omega,zzH h5,zzH (((((HBk.out.trans (HBA.out.mono HBk.out.size)).trans HB2.out).trans HB3.out).trans HB4.out).trans hb5)⟩
     case measure=>simp [intOf];omega
    ·have HZ:Hid (W=pp1++(zf u.funs.length++(u.funs.flatMap zbW++(zf u.code.length++(u.code.flatMap zbw++ []))))):=zzH (by rw [HK.out,zzq8 (by omega)];rfl)
     have hnl:=zv u.funs.length;have hz:=HTB.out.funcs;have hzl:=HTB.out.funs;have hp2:pp1.length<=655350669860:=by omega
     have e3:=(HUX.out.below HBk.out).c4;go_wp2_with fail;refine(zbt w5.heap.size w5.heap.size pp1 (u.funs.length:Int) _ HWk.out (by omega) (by omega) (by omega)).mono ?_;rintro e wn ⟨rfl,hn,hbn,hsn⟩;rw [zzq16]at hn;have HP:Hid (W=(pp1++zf u.funs.length)++(u.funs.flatMap zbW++(zf u.code.length++(u.code.flatMap zbw++ [])))):=zzH (by rw [HZ.out];simp only [zzq4]);have hpl2:(pp1++zf u.funs.length).length<=655350700000:=by rw [zzq1];omega
     have HWp:=zzH hn;have HBp:=zzH (HBk.out.trans hbn);have e4:=(HUX.out.below HBp.out).c4;clear hn hbn hsn e3 HZ HK hpk hpl1 hp2 hnl hz hzl HWk HBk;clear HQ hlen hk hlt;generalize hpq:pp1++zf u.funs.length=p2 at *;clear hpq;have hlen:=HTB.out.funs;have HQ:Hid (W=p2++((u.funs.drop 0).flatMap zbW++(zf u.code.length++(u.code.flatMap zbw++ [])))):=zzH (by rw [HP.out,List.drop_zero]);clear HP;go_wp2_with fail;go_loopw [94] (fun iv wr=> ∃(k:Nat) (pp2:List UInt8),k<=u.funs.length/\iv= .int .i64 k/\Hid (W=pp2++((u.funs.drop k).flatMap zbW++(zf u.code.length++(u.code.flatMap zbw++ []))))/\pp2.length<=p2.length+30*k/\Hid (WrAt w5.heap.size w5.heap.size pp2 wr)/\Hid (Below w5.heap.size w5 wr)) (fun iv _=>u.funs.length-(intOf iv).toNat)
     case atStart=>exact⟨0,p2,zzZ _,rfl,HQ,by omega,HWp,HBp⟩
     case round=>
      obtain⟨k,pp2,hk,rfl,HK,hpk,HWk,HBk⟩:=hrel;rename World=>wr2
      clear HWp HBp;by_cases hlt:k<u.funs.length
      ·obtain⟨b2,off,hao,hb2,q0,q1,q2,r0,r1,r2⟩:=((HUP5.out.below HBk.out).funs).fn hlt
       subst hao;have HST:=zzH (zf3 zbW u.funs hlt);have HAW:=zzH (HTB.out.fn _ (zzM hlt));clear r0 r1 r2;generalize u.funs[k]=a at *;have hba:=(zzR wr2.heap.size wr2).alloc (zzL _) (.cells #[.int .i64 a.arity,.int .i64 a.free,.int .i64 a.entry] 59);have hLc:=zzF wr2 (.cells #[.int .i64 a.arity,.int .i64 a.free,.int .i64 a.entry] 59);have HBA:=zzH hba;have HL1:=zzH hLc;clear hba hLc;have H1:=zzH (HWk.out.next HBA.out);have hal1:=zv a.arity.toNat;have hal2:=zv a.free.toNat;have hal3:=zv a.entry.toNat;go_wp2_with fail;refine(zbt w5.heap.size w5.heap.size (pp2) a.arity _ H1.out HAW.out.1 (Int.le_trans HAW.out.2.1 (by decide)) (by(try simp only [zzq1]);omega)).mono ?_;rintro e x2 ⟨rfl,h2,hb2,hs2⟩;refine zzK4 h2 hb2 hs2 (hs2 _ _ _ _ HL1.out (by decide) (by decide)) fun H2 HB2 HS2 HL2=>?_;clear h2 hb2 hs2;have g1:x2.cell? ⟨wr2.heap.size,1,none⟩=some (.int .i64 a.free):=by rw [zzq2 _ _ _ _ _ _ HL2.out];rfl
       go_wp2_with fail;refine(zbt w5.heap.size w5.heap.size (pp2++zf a.arity.toNat) a.free _ H2.out HAW.out.2.2.1 (Int.le_trans HAW.out.2.2.2.1 (by decide)) (by(try simp only [zzq1]);omega)).mono ?_;rintro e x3 ⟨rfl,h3,hb3,hs3⟩;refine zzK4 h3 hb3 hs3 (hs3 _ _ _ _ HL2.out (by decide) (by decide)) fun H3 HB3 HS3 HL3=>?_;clear h3 hb3 hs3;clear g1;have g2:x3.cell? ⟨wr2.heap.size,2,none⟩=some (.int .i64 a.entry):=by rw [zzq2 _ _ _ _ _ _ HL3.out];rfl
       go_wp2_with fail;refine(zbt w5.heap.size w5.heap.size ((pp2++zf a.arity.toNat)++zf a.free.toNat) a.entry _ H3.out HAW.out.2.2.2.2.1 (Int.le_trans HAW.out.2.2.2.2.2 (by decide)) (by(try simp only [zzq1]);omega)).mono ?_;rintro e x4 ⟨rfl,h4,hb4,hs4⟩;go_wp2_with fail;go_roundw
       case rel=>exact⟨k+1,((pp2++zf a.arity.toNat)++zf a.free.toNat)++zf a.entry.toNat,by omega,by go_num,zzH (by rw [HK.out,HST.out];unfold zbW;simp only [zzq4]),by simp only [zzq1];omega,zzH h4,zzH ((((HBk.out.trans (HBA.out.mono HBk.out.size)).trans HB2.out).trans HB3.out).trans hb4)⟩
       case measure=>simp [intOf];omega
      ·have HZ:Hid (W=pp2++(zf u.code.length++(u.code.flatMap zbw++ []))):=zzH (by rw [HK.out,zzq8 (by omega)];rfl)
       have hnl:=zv u.code.length;have hz:=HTB.out.funs;have hzl:=HTB.out.code1;have hp2:pp2.length<=655350730000:=by omega
       have e3:=(HUX.out.below HBk.out).c5;go_wp2_with fail;refine(zbt w5.heap.size w5.heap.size pp2 (u.code.length:Int) _ HWk.out (by omega) (by omega) (by omega)).mono ?_;rintro e wn ⟨rfl,hn,hbn,hsn⟩;rw [zzq16]at hn;have HP:Hid (W=(pp2++zf u.code.length)++(u.code.flatMap zbw++ [])):=zzH (by rw [HZ.out];simp only [zzq4]);have hpl3:(pp2++zf u.code.length).length<=655350800000:=by rw [zzq1];omega
       have HWp:=zzH hn;have HBp:=zzH (HBk.out.trans hbn);have e4:=(HUX.out.below HBp.out).c5;clear hn hbn hsn e3 HZ HK hpk hpl2 hp2 hnl hz hzl HWk HBk;clear HQ hlen hk hlt;generalize hpq:pp2++zf u.code.length=p3 at *;clear hpq;have hlen:=HTB.out.code1;have HQ:Hid (W=p3++((u.code.drop 0).flatMap zbw++ [])):=zzH (by rw [HP.out,List.drop_zero]);clear HP;go_wp2_with fail;go_loopw [119] (fun iv wr=> ∃(k:Nat) (pp3:List UInt8),k<=u.code.length/\iv= .int .i64 k/\Hid (W=pp3++((u.code.drop k).flatMap zbw++ []))/\pp3.length<=p3.length+100000*k/\Hid (WrAt w5.heap.size w5.heap.size pp3 wr)/\Hid (Below w5.heap.size w5 wr)) (fun iv _=>u.code.length-(intOf iv).toNat)
       case atStart=>exact⟨0,p3,zzZ _,rfl,HQ,by omega,HWp,HBp⟩
       case round=>
        obtain⟨k,pp3,hk,rfl,HK,hpk,HWk,HBk⟩:=hrel;rename World=>wr3
        clear HWp HBp;by_cases hlt:k<u.code.length
        ·have d5:=(HUX.out.below HBk.out).c5
         obtain⟨bc,oc,so,co',go',sc,cc',gc',hco,hxb⟩:=zfd HUP5.out.code hlt;subst hco;have HST:=zzH (zf3 zbw u.code hlt);have hib:=HIN.out k hlt;have HOP:Hid (1<=u.code[k].op/\u.code[k].op<=40):=zzH (by unfold zep at hib;rw [zzq6]at hib;exact zza hib.1);have HWI2:=zzH (zig HTB.out hib);have HXB:=zzH hxb;have hcl:=HUP5.out.codeLen;have hbl:=HXB.out.lt;clear hib hxb;have hal:=zgx HWI2.out;have HRW5:=zzH (HRW.out.below HB5.out);go_wp2_with fail;refine(znr w5 w5.heap.size pp3 bc (oc+k*10) u.code[k] so co' go' sc cc' gc' wr3 HRW5.out HWk.out HBk.out HXB.out HOP.out HWI2.out (by omega)).mono ?_;rintro e w11 ⟨rfl,h11,hb11,hs11⟩;go_wp2_with fail;go_roundw
         case rel=>exact⟨k+1,pp3++zbw u.code[k],by omega,by go_num,zzH (by rw [HK.out,HST.out];simp only [zzq4]),by rw [zzq1];unfold zbw;omega,zzH h11,zzH (HBk.out.trans hb11)⟩
         case measure=>simp [intOf];omega
        ·have HZ:Hid (W=pp3):=zzH (by rw [HK.out,zzq8 (by omega)];exact List.append_nil _)
         obtain⟨hBr,hBw,bv,hbk,hown,hne⟩:=HWk.out;have z0:wr3.cell? ⟨w5.heap.size,0,none⟩=some bv:=by rw [zzq2 _ _ _ _ _ _ hbk];rfl
         have hcv:=zti hown (by rw [<-HZ.out];exact HNE.out);have hrl:=zc hbk;have HF:Hid (Below B0 w wr3):=zzH (HBA.out.trans ((HB5.out.trans (HBk.out.mono HB5.out.size)).mono (by have:=HBA.out.size;have:=HBE.out;omega)));obtain⟨ao',capp3,rfl⟩:=zdm hown;clear hown hbk hne;rw [<-HZ.out]at hcv z0;go_wp2;go_ret2;exact⟨rfl,by rw [HBE.out];exact HF.out⟩
theorem zmV {w:World} {f:Nat} {lo:zzA} {lits:List Tm} (h:LitsOk w f lo lits) {i j:Nat} (hi:i<lits.length) (hj:j<lits.length) (ki:zdb lits[i]=true) (kj:zdb lits[j]=true) {ai aj:zzA} {ci cj:Nat}
  (si:SlAt w 9 (TmAt w f) ai lits[i].items) (sj:SlAt w 9 (TmAt w f) aj lits[j].items) (oi:lits[i].Ok) (oj:lits[j].Ok) (wx:World) (hx:Below w.heap.size w wx):
  Calls Tryz.prog 130 #[.agg #[.int .i64 lits[i].kind,.int .i64 lits[i].int,.int .i64 lits[i].gen,.string lits[i].name,.string lits[i].func,.int .i64 lits[i].arity,.slice ai lits[i].items.length ci,.string lits[i].bytes,.int .i64 lits[i].bits],.agg #[.int .i64 lits[j].kind,.int .i64 lits[j].int,.int .i64 lits[j].gen,.string lits[j].name,.string lits[j].func,.int .i64 lits[j].arity,.slice aj lits[j].items.length cj,.string lits[j].bytes,.int .i64 lits[j].bits]] wx fun e w'=>e= .returned (.int .i64 (zcl lits[i] lits[j]))/\Below wx.heap.size wx w':=by
 obtain⟨vi,bi⟩:=h.ok _ (zzM hi);obtain⟨vj,bj⟩:=h.ok _ (zzM hj);exact ziN f lits[i] lits[j] ai aj ci cj wx (si.tms hx) (sj.tms hx) oi oj bi bj vi vj (zza ki) (zza kj)
theorem znR (u:RUnit) (lo fo go co:zzA) (lc fc gc cc:Nat) (x:RIns) (so co' go':zzA) (sc cc' gc':Nat) (f:Nat) (w:World) (hl:u.lits.length<=9223372036854775807) (hlit:LitsOk w f lo u.lits) (hca:SlAt w 2 zdc co' x.cases) (hse:SlAt w 6 zdZ go' x.segs) (rc:x.cases.length<=9223372036854775807) (rs:x.segs.length<=9223372036854775807):
  Calls Tryz.prog 85 #[.agg (zzu u lo lc fo fc go gc co cc),.agg (zzi x so sc co' cc' go' gc')] w fun e w'=>e= .returned (.bool (zbo u.lits x))/\Below w.heap.size w w':=by
 unfold zzi zzu;have HE:Hid (zbo u.lits x=(((!(x.op==12)||wi x.cases.length 1 1000)&&decide ((x.segs.length:Int)<=60))&&(zet u.lits x.cases&&x.segs.all (zbN u.lits.length)))):=zzH rfl;refine zzK3 hlit hca hse fun HLI0 HCA0 HSE0=>?_;have hwi:=fun wx=>zK (x.cases.length:Int) 1 1000 wx
 clear hlit hca hse;go_in;go_upto_region 1 with fail;obtain⟨hU,hX,hBW⟩:=zbC w u lo fo go co lc fc gc cc x so co' go' sc cc' gc';have HBW:=zzH hBW;have HLI:Hid (LitsOk _ f lo u.lits):=zzH (HLI0.out.below hBW);have HCA:=zzH (HCA0.out.mono hBW fun _ _ h=>h);have HSE:=zzH (HSE0.out.mono hBW fun _ _ h=>h);clear hBW HLI0 HCA0 HSE0;generalize(w.alloc (.cells (zzu u lo lc fo fc go gc co cc) 27)).alloc (.cells (zzi x so sc co' cc' go' gc') 36)=W at *;generalize hBz:w.heap.size=B at *;have HBZ:=zzH hBz;clear hBz;have HFIN:Hid (∀wx,Below W.heap.size W wx->Below B w wx):=zzH (fun wx hh=>HBW.out.trans (hh.mono (by have:=HBW.out.size;have:=HBZ.out;omega)));have HU:=zzH hU;have HX:=zzH hX;have c0:=hX.c0;have c8:=hX.c8;have c9:=hX.c9;have hlx:=hX.lt;have hlu:=hU.lt;clear hU hX;generalize hr1:(!(x.op==12)||wi x.cases.length 1 1000)=r1 at HE;have HR1:=zzH hr1;clear hr1;go_cut [19] (fun s wx=> ∃n1:Bool,s= .bool n1/\Hid (n1= !r1)/\W=wx)
 case first=>
  generalize wi x.cases.length 1 1000=w1 at *
  cases t12:(x.op==12)with
  |true=>
   cases w1 with
   |false=>
    have hv:=zzH (HR1.out.symm.trans (by rw [t12];rfl:_=false));exact zz185
   |true=>
    have hv:=zzH (HR1.out.symm.trans (by rw [t12];rfl:_=true));exact zz185
  |false=>
   have hv:=zzH (HR1.out.symm.trans (by rw [t12];rfl:_=true));go_wp2_with fail;go_meet
   case rel=>exact⟨_,rfl,zzH (by rw [hv.out];rfl),rfl⟩
 case rest=>
  obtain⟨n1,rfl,hn1,rfl⟩:=hcut;clear HR1 hwi
  cases r1 with
  |false=>
   exact zz186
  |true=>
   obtain rfl:n1=false:=hn1.out;have HE1:Hid (zbo u.lits x=(decide ((x.segs.length:Int)<=60)&&(zet u.lits x.cases&&x.segs.all (zbN u.lits.length)))):=zzH (by rw [HE.out,zzq15]);clear HE;go_wp2_with fail;go_loopw [5,6,7] (fun i _ _ wr=> ∃k:Nat,k<=x.cases.length/\i= .int .i64 k/\Hid (∀j,j<k->zca u.lits x.cases j=true)/\Below W.heap.size W wr) (fun i _ _ _=>x.cases.length-(intOf i).toNat)
   case atStart=>exact⟨0,zzZ _,rfl,zzH (fun j h=>absurd h (zzC _)),zzR _ _⟩
   case round=>
    obtain⟨k,hk,rfl,HK,hBw⟩:=hrel;rename World=>wr
    clear c0 c8 c9;have hxr:=HX.out.below hBw;have hur:=HU.out.below hBw;have HBWR:=zzH hBw;have c8:=hxr.c8;have c9:=hxr.c9;have hlx:=hxr.lt;have hlu:=hur.lt;have u2:=hur.c2;by_cases hlt:k<x.cases.length
    ·obtain⟨b1,off1,hco,hb1,q0,q1,rl,rt⟩:=(HCA.out.mono hBw fun _ _ h=>h).case hlt
     subst hco;have hcl:=zgw hlt;generalize x.cases[k].to=ct at *;generalize x.cases[k].lit=cl at *;have hwr1:=zzV u.lits.length (by omega)
     clear hxr hur hBw q1;by_cases hin:0<=cl/\cl<=(u.lits.length:Int)-1
     ·obtain⟨m,rfl⟩: ∃m:Nat,cl=(m:Int):=⟨cl.toNat,by omega⟩
      have hm:m<u.lits.length:=by omega
      have hw1:=zev hin.1 hin.2;have hwc:=fun wx=>zK (m:Int) 0 ((u.lits.length:Int)-1) wx
      have HW1:=zzH hw1;rw [hw1]at hwc;obtain⟨b2,off2,ai,ci,hlo,hb2,p0,p1,p2,p3,p4,p5,p6,p7,p8,hit,hok⟩:=(HLI.out.below HBWR.out).at'.tm hm;have hla:=zfh hm;refine zzK3 hcl hit hok fun HCL HIT HOK=>?_;subst hlo;clear hcl hw1 hin rl rt hit hok;generalize hkk:(u.lits[m]).kind=kk at p0;have HKK:=zzH hkk;clear hkk;by_cases hko:kk=1\/kk=2\/kk=8
      ·have HKO:Hid (zdb u.lits[m]=true):=zzH (by unfold zdb;rw [HKK.out];exact zzT hko)
       by_cases k0:k=0
       ·have HK2:Hid (∀j,j<k+1->zca u.lits x.cases j=true):=zzH (fun j hj=>by
         obtain rfl:j=k:=by omega
         unfold zca;rw [HCL.out,HW1.out,hla,HKO.out,decide_eq_true k0];rfl)
        have hd0:decide ((0:Int)<(k:Int))=false:=zzD (by omega);have hd1:decide (0<k)=false:=zzD (by omega);clear k0;rcases hko with rfl|rfl|rfl
        all_goals
         go_wp2_with (go_at_call 122;refine(hwc _).mono ?_;rintro e w1 ⟨rfl,rfl⟩);go_quiet (fail);go_wp2_with fail;go_roundw
         case rel=>exact⟨k+1,by omega,by go_num,HK2,zP HBWR.out _⟩
         case measure=>simp [intOf];omega
       ·obtain⟨k',hk'⟩: ∃k',k=k'+1:=⟨k-1,by omega⟩
        have hlt':k'<x.cases.length:=by omega
        have hprev:=HK.out k' (by omega);obtain⟨b1',off1',hco',hb1',q0',q1',rl',rt'⟩:=(HCA.out.mono HBWR.out fun _ _ h=>h).case hlt';obtain⟨rfl,rfl⟩:b1=b1'/\off1=off1':=by injection hco' with h;injection h with h1 h2;exact⟨h1,h2⟩
        have hcl':=zgw hlt';generalize x.cases[k'].lit=cl' at *;generalize x.cases[k'].to=ct' at *;unfold zca at hprev;rw [hcl']at hprev
        have hpin:0<=cl'/\cl'<=(u.lits.length:Int)-1:=by
         exact zz71
        obtain⟨m',rfl⟩: ∃m':Nat,cl'=(m':Int):=⟨cl'.toNat,by omega⟩;have hm':m'<u.lits.length:=by omega
        rw [zfh hm']at hprev
        have hko':zdb u.lits[m']=true:=by
         cases h:zdb u.lits[m']with
         |true=>rfl
         |false=>rw [h]at hprev;simp at hprev
        have HLW:=zzH (HLI.out.below HBWR.out);obtain⟨b2',off2',ai',ci',hlo',hb2',r0,r1,r2,r3,r4,r5,r6,r7,r8,hit',hok'⟩:=HLW.out.at'.tm hm';obtain⟨rfl,rfl⟩:b2=b2'/\off2=off2':=by injection hlo' with h;injection h with h1 h2;exact⟨h1,h2⟩
        have hLess:=zmV (ci:=ci') (cj:=ci) HLW.out hm' hm hko' HKO.out hit' HIT.out hok' HOK.out
        have HOKK:Hid (zca u.lits x.cases k=decide (zcl u.lits[m'] u.lits[m]<0)):=zzH (by
         unfold zca;rw [HCL.out,HW1.out,hla,HKO.out,decide_eq_false k0,hk',Nat.add_sub_cancel,hcl',zfh hm'];simp)
        have hd0:decide ((0:Int)<(k:Int))=true:=zzT (by omega);have hd1:decide (0<k)=true:=zzT (by omega);have hwk:IntKind.i64.wrap ((k:Int)-1)=(k':Int):=by rw [zzq5];omega
        rw [HKK.out]at hLess;have HDW:Hid (Below wr.heap.size wr wr.drew):=zzH (zzR _ _).drew;have SK0:=zzH (zY HDW.out);clear q1' hprev hpin hcl' hla hit' hok' hlo' hco' rl' rt' k0 hk' hb1' hb2';generalize zcl u.lits[m'] u.lits[m]=q at *;generalize u.lits[m']=t' at *;generalize u.lits[m]=t at *;by_cases hq:q<0
        ·have HK2:Hid (∀j,j<k+1->zca u.lits x.cases j=true):=zzH (fun j hj=>by
          rcases Nat.eq_or_lt_of_le (Nat.le_of_lt_succ hj)with h|h
          ·rw [h,HOKK.out];exact zzT hq
          ·exact HK.out j h)
         rcases hko with rfl|rfl|rfl
         all_goals
          go_wp2_with (go_at_call 122;refine(hwc _).mono ?_;rintro e w1 ⟨rfl,rfl⟩)
          first|go_region_held3 (fun w'=>wr.heap.size<=w'.heap.size/\ ∀b o,b<wr.heap.size->w'.cell? ⟨b,o,none⟩=wr.cell? ⟨b,o,none⟩) (first|with_reducible exact SK0.out|with_reducible exact HK5.out)
           ((go_at_call 130;refine(hLess _ HDW.out).mono ?_;rintro e w5 ⟨rfl,hb5⟩;have HK5:=zzH (zY (zd HDW.out hb5));have HB5:=zzH (zd HDW.out hb5)))|fail
          go_wp2_with fail;go_roundw
          case rel=>exact⟨k+1,by omega,by go_num,HK2,HBWR.out.trans (HB5.out.mono HBWR.out.size)⟩
          case measure=>simp [intOf];omega
        ·have hq':0<=q:=by omega
         have E:Hid (zbo u.lits x=false):=zzH (by rw [HE1.out,zeK hlt (HOKK.out.trans (decide_eq_false hq)),Bool.false_and,Bool.and_false]);clear hq;rcases hko with rfl|rfl|rfl
         all_goals
          go_wp2_with (go_at_call 122;refine(hwc _).mono ?_;rintro e w1 ⟨rfl,rfl⟩)
          first|go_region_held3 (fun w'=>wr.heap.size<=w'.heap.size/\ ∀b o,b<wr.heap.size->w'.cell? ⟨b,o,none⟩=wr.cell? ⟨b,o,none⟩) (first|with_reducible exact SK0.out|with_reducible exact HK5.out)
           ((go_at_call 130;refine(hLess _ HDW.out).mono ?_;rintro e w5 ⟨rfl,hb5⟩;have HK5:=zzH (zY (zd HDW.out hb5));have HB5:=zzH (zd HDW.out hb5)))|fail
          go_wp2;go_ret;exact⟨zn E.out.symm,by rw [HBZ.out];exact HFIN.out _ (HBWR.out.trans (HB5.out.mono HBWR.out.size))⟩
      ·have E:Hid (zbo u.lits x=false):=zzH (by
        rw [HE1.out,zeK hlt (by
         unfold zca zdb;rw [HCL.out,HW1.out,hla,HKK.out,decide_eq_false hko];rfl),Bool.false_and,Bool.and_false])
       have t1 : (kk != 1) = true := by rw [bne_iff_ne]; exact fun h => hko (.inl h)
       have t2 : (kk != 2) = true := by rw [bne_iff_ne]; exact fun h => hko (.inr (.inl h))
       have t8 : (kk != 8) = true := by rw [bne_iff_ne]; exact fun h => hko (.inr (.inr h))
       clear hko;exact zz184
     ·have E:Hid (zbo u.lits x=false):=zzH (by rw [HE1.out,zeK hlt (by unfold zca;rw [hcl,zdK hin];rfl),Bool.false_and,Bool.and_false])
      have hw0:=zdK hin;have hwc:=fun wx=>zK cl 0 ((u.lits.length:Int)-1) wx
      rw [hw0]at hwc;clear hcl hw0 hin;exact zz184
    ·have HC1:Hid (zet u.lits x.cases=true):=zzH (ziw (fun j hj=>HK.out j (by omega)))
     have HE2:Hid (zbo u.lits x=(decide ((x.segs.length:Int)<=60)&&x.segs.all (zbN u.lits.length))):=zzH (by rw [HE1.out,HC1.out,zzq15]);clear HE1 HC1 HK hxr hur hBw;by_cases s60:(x.segs.length:Int)<=60
     ·have HE3:Hid (zbo u.lits x=x.segs.all (zbN u.lits.length)):=zzH (by rw [HE2.out,decide_eq_true s60,zzq15])
      have HI:Hid (x.segs.all (zbN u.lits.length)=(x.segs.drop 0).all (zbN u.lits.length)):=zzH rfl;clear HE2;obtain⟨wo,rfl⟩: ∃wo:World,wo=wr:=⟨_,rfl⟩;go_wp2_with fail;go_loopw [8,9] (fun i _ wq=> ∃k:Nat,k<=x.segs.length/\i= .int .i64 k/\Hid (x.segs.all (zbN u.lits.length)=(x.segs.drop k).all (zbN u.lits.length))/\Below W.heap.size W wq) (fun i _ _=>x.segs.length-(intOf i).toNat)
      case atStart=>exact⟨0,zzZ _,rfl,HI,HBWR.out⟩
      case round=>
       obtain⟨k,hk,rfl,HK,hBq⟩:=hrel;rename World=>wr
       clear c8 c9 hlx hlu u2 HBWR;have hxr:=HX.out.below hBq;have hur:=HU.out.below hBq;have HBQ:=zzH hBq;have c9:=hxr.c9;have hlx:=hxr.lt;have hlu:=hur.lt;clear hxr;by_cases hlt:k<x.segs.length
       ·obtain⟨b1,off1,hgo,hb1,s0,s1,s2,s3,s4,s5,t0,t1,t2,t3,t4⟩:=(HSE.out.mono hBq fun _ _ h=>h).seg hlt
        subst hgo;have HST:Hid ((x.segs.drop k).all (zbN u.lits.length)=(zbN u.lits.length x.segs[k]&&(x.segs.drop (k+1)).all (zbN u.lits.length))):=zzH (by rw [List.drop_eq_getElem_cons hlt,List.all_cons]);have hop1:=fun wx=>zeU u lo fo go co lc fc gc cc x.segs[k].val wx hl ⟨t1,t2⟩
        have hop2:=fun wx=>zeU u lo fo go co lc fc gc cc x.segs[k].size wx hl ⟨t3,t4⟩
        have hno:=fun wx=>zhp x.segs[k].size wx
        have HSB:Hid (zbN u.lits.length x.segs[k]=(wi x.segs[k].type 1 3&&(zbi u.lits.length x.segs[k].val&&((zdL x.segs[k].size||zbi u.lits.length x.segs[k].size)&&(!x.segs[k].little||x.segs[k].type==1))))):=zzH rfl;have hwt:=fun wx=>zK x.segs[k].type 1 3 wx
        refine zzK3 hop1 hop2 hno fun HOP1 HOP2 HNO=>?_;clear hop1 hop2 hno;generalize zbN u.lits.length x.segs[k]=sb at *;generalize zbi u.lits.length x.segs[k].val=ov at *;generalize zbi u.lits.length x.segs[k].size=os at *;generalize zdL x.segs[k].size=nz at *;generalize wi x.segs[k].type 1 3=wt at *;generalize x.segs[k]=g at *;obtain⟨ty,⟨vk,vn⟩,⟨sk,sn⟩,lit⟩:=g;simp only at *;have hbx:Below wr.heap.size wr (wr.alloc (.cells #[.int .i64 ty,.int .i64 vk,.int .i64 vn,.int .i64 sk,.int .i64 sn,.bool lit] 121)):=zzE _ _;have hbr:=zzF wr (.cells #[.int .i64 ty,.int .i64 vk,.int .i64 vn,.int .i64 sk,.int .i64 sn,.bool lit] 121);refine zzK3 hbx hbr hur fun HBX HBR HUR=>?_;clear hbx hbr t0 t1 t2 t3 t4 hBq hur;have u0:=(HUR.out.below HBX.out).c0;have u1:=(HUR.out.below HBX.out).c1;have u2:=(HUR.out.below HBX.out).c2;have u3:=(HUR.out.below HBX.out).c3;have u4:=(HUR.out.below HBX.out).c4;have u5:=(HUR.out.below HBX.out).c5
        cases wt with
        |false=>
         have E:Hid (zbo u.lits x=false):=zzH (by rw [HE3.out,HK.out,HST.out,HSB.out];simp);go_wp2_with (go_at_call 122;refine(hwt _).mono ?_;rintro e w1 ⟨rfl,rfl⟩);go_ret;exact⟨zn E.out.symm,by rw [HBZ.out];exact HFIN.out _ (HBQ.out.trans (HBX.out.mono HBQ.out.size))⟩
        |true=>
         go_wp2_with (go_at_call 122;refine(hwt _).mono ?_;rintro e w1 ⟨rfl,rfl⟩);refine(HOP1.out _).mono ?_;rintro e w5 ⟨rfl,hb5⟩;have HB5:=zzH (zd HBX.out hb5);have hbra:=(hb5.block wr.heap.size (zc HBR.out)).trans HBR.out;obtain⟨g0,g1,g2,g3,g4,g5⟩:=zc4 hbra;have hlra:=zc hbra;clear u0 u1 u2 u3 u4 u5;have u0:=(HUR.out.below HB5.out).c0;have u1:=(HUR.out.below HB5.out).c1;have u2:=(HUR.out.below HB5.out).c2;have u3:=(HUR.out.below HB5.out).c3;have u4:=(HUR.out.below HB5.out).c4;have u5:=(HUR.out.below HB5.out).c5;have hlua:=(HUR.out.below HB5.out).lt;have HBRA:=zzH hbra;clear hb5 hbra
         cases ov with
         |false=>
          have E:Hid (zbo u.lits x=false):=zzH (by rw [HE3.out,HK.out,HST.out,HSB.out];simp []);go_wp2;go_ret;exact⟨zn E.out.symm,by rw [HBZ.out];exact HFIN.out _ (HBQ.out.trans (HB5.out.mono HBQ.out.size))⟩
         |true=>
          go_wp2_with fail;refine(HOP2.out _).mono ?_;rintro e w6 ⟨rfl,hb6⟩;have HB6:=zzH (zd HB5.out hb6);have hbrb:=(hb6.block wr.heap.size hlra).trans HBRA.out;clear g0 g1 g2 g3 g4 g5 u0 u1 u2 u3 u4 u5;obtain⟨g0,g1,g2,g3,g4,g5⟩:=zc4 hbrb;have hlrb:=zc hbrb;have HBRB:=zzH hbrb;clear hb6 hbrb
          cases os with
          |true=>
           cases lit with
           |false=>
            have HK2:Hid (x.segs.all (zbN u.lits.length)=(x.segs.drop (k+1)).all (zbN u.lits.length)):=zzH (by rw [HK.out,HST.out,HSB.out];simp []);exact zz182
           |true=>
            cases ty1:(ty==1)with
            |true=>
             have ty2 : (ty != 1) = false := by unfold bne; rw [ty1]; rfl
             have HK2:Hid (x.segs.all (zbN u.lits.length)=(x.segs.drop (k+1)).all (zbN u.lits.length)):=zzH (by rw [HK.out,HST.out,HSB.out];simp [ty1]);exact zz182
            |false=>
             have ty2 : (ty != 1) = true := by unfold bne; rw [ty1]; rfl
             have E:Hid (zbo u.lits x=false):=zzH (by rw [HE3.out,HK.out,HST.out,HSB.out];simp [ty1]);go_wp2;go_ret;exact⟨zn E.out.symm,by rw [HBZ.out];exact HFIN.out _ (HBQ.out.trans (HB6.out.mono HBQ.out.size))⟩
          |false=>
           go_wp2_with fail;refine(HNO.out _).mono ?_;rintro e w7 ⟨rfl,hb7⟩;have HB7:=zzH (zd HB6.out hb7);have hbrc:=(hb7.block wr.heap.size hlrb).trans HBRB.out;clear g0 g1 g2 g3 g4 g5;obtain⟨g0,g1,g2,g3,g4,g5⟩:=zc4 hbrc;have hlrc:=zc hbrc;clear hb7 hbrc
           cases nz with
           |false=>
            have E:Hid (zbo u.lits x=false):=zzH (by rw [HE3.out,HK.out,HST.out,HSB.out];simp []);exact zz187
           |true=>
            cases lit with
            |false=>
             have HK2:Hid (x.segs.all (zbN u.lits.length)=(x.segs.drop (k+1)).all (zbN u.lits.length)):=zzH (by rw [HK.out,HST.out,HSB.out];simp []);exact zz183
            |true=>
             cases ty1:(ty==1)with
             |true=>
              have ty2 : (ty != 1) = false := by unfold bne; rw [ty1]; rfl
              have HK2:Hid (x.segs.all (zbN u.lits.length)=(x.segs.drop (k+1)).all (zbN u.lits.length)):=zzH (by rw [HK.out,HST.out,HSB.out];simp [ty1]);exact zz183
             |false=>
              have ty2 : (ty != 1) = true := by unfold bne; rw [ty1]; rfl
              have E:Hid (zbo u.lits x=false):=zzH (by rw [HE3.out,HK.out,HST.out,HSB.out];simp [ty1]);exact zz187
       ·have E:Hid (zbo u.lits x=true):=zzH (by rw [HE3.out,HK.out,zzq8 (by omega)];rfl)
        go_wp2;go_ret;exact⟨zn E.out.symm,by rw [HBZ.out];exact HFIN.out _ HBQ.out⟩
     ·have s60':60<(x.segs.length:Int):=by omega
      have E:Hid (zbo u.lits x=false):=zzH (by rw [HE2.out,decide_eq_false s60];rfl);clear s60;go_wp2;go_ret;exact⟨zn E.out.symm,by rw [HBZ.out];exact HFIN.out _ HBWR.out⟩
end Go.Proofs.YtijekmeocadkeaaGreatDoor
