import Derived.Test.YtijekmeocadkeaaGreatDoorW05
import Derived.Test.YtijekmeocadkeaaGreatDoorW06
import Derived.Test.YtijekmeocadkeaaGreatDoorW07
namespace Go.Proofs.YtijekmeocadkeaaGreatDoor
open Go.RowKit
set_option linter.unusedVariables false
set_option linter.unusedSimpArgs false
set_option maxRecDepth 100000
set_option maxHeartbeats 0
open Go.RowKit Go.Shelf Go.Lib
def zh6 (x:Ch):List Value:=[.string x.1,.string x.2]
def RowAt (w:World) (b off:Nat) (l:List Ch):Prop:=b<w.heap.size/\ ∀j,j<l.length->w.cell? ⟨b,off+j*2,none⟩=some (.string l[j]!.1)/\w.cell? ⟨b,off+j*2+1,none⟩=some (.string l[j]!.2)
theorem RowAt.below {w w':World} {b off B:Nat} {l:List Ch} (h:RowAt w b off l) (hb:Below B w w') (hB:b<B):RowAt w' b off l:=
 ⟨zzW h.1 hb.size,fun j hj=>by
  have:=h.2 j hj;exact⟨(hb.cell (p:=⟨b,off+j*2,none⟩) hB).trans this.1,(hb.cell (p:=⟨b,off+j*2+1,none⟩) hB).trans this.2⟩⟩
theorem zlP (n:ByteArray) (B:Nat) (w:World) (hB:B<w.heap.size) (h0:w.cell? ⟨B,0,none⟩=some (.string n)):
  PredBelow Tryz.prog 63 #[.pointer (some ⟨B,0,none⟩)] (fun x=>.agg (zh6 x).toArray) (fun x:Ch=>x.1.toList==n.toList) w:=fun W x hb=>by
 have hc:W.cell? ⟨B,0,none⟩=some (.string n):=(hb.cell (p:=⟨B,0,none⟩) hB).trans h0;have hBW:B<W.heap.size:=zzW hB hb.size;have hne:B≠W.heap.size:=by omega
 show Calls Tryz.prog 63 #[.agg #[.string x.1,.string x.2],.pointer (some ⟨B,0,none⟩)] W _;go_in;go_wp2
 all_goals(go_ret;exact⟨rfl,hb.alloc hb.size _⟩)
theorem zjX (b off c:Nat) (l:List Ch) (n:ByteArray) (B:Nat) (w:World) (hr:RowAt w b off l) (hbig:l.length<=9223372036854775807) (hB:B<w.heap.size) (h0:w.cell? ⟨B,0,none⟩=some (.string n)):
  Calls Tryz.prog 65 #[.slice (some ⟨b,off,none⟩) l.length c,.func (.func 63) #[] #[.pointer (some ⟨B,0,none⟩)]] w fun e w'=>e= .returned (.int .i64 (Lib.idxBy (fun _ y=>y.1.toList==n.toList) (l.take l.length) default))/\Below w.heap.size w w':=
 AnyQ.slices_IndexFunc Tryz.l36 2 Tryz.isAgg46 Tryz.sizeOf46 zh6 (fun _=>rfl) (fun x=>x.1.toList==n.toList) 63 #[.pointer (some ⟨B,0,none⟩)] (enters_of Tryz.func63 (by kernel_rfl) rfl) b off l.length c l w
  (zlP n B w hB h0) (zzL _) hbig hr.1 (fun j hj i v hi=>by
   have h1:=hr.2 j hj;generalize l[j]! =y at hi h1
   match i,hi with
   |0,hi=>simp [zh6]at hi;rw [<-hi];exact h1.1
   |1,hi=>simp [zh6]at hi;rw [<-hi];exact h1.2
   |i+2,hi=>simp [zh6]at hi)
theorem zqS {l:List Ch} {k:Nat} (hk:k<l.length):Lib.idxBy (fun _ y:Ch=>y.1.toList==l[k]!.1.toList) (l.take l.length) default=k↔ ∀j,j<k->l[j]!.1.data.toList≠l[k]!.1.data.toList:=by
 constructor
 ·intro h j hj e
  have hm: ∃m,m<=j/\l[m]!.1.data.toList=l[k]!.1.data.toList/\ ∀i,i<m->l[i]!.1.data.toList≠l[k]!.1.data.toList:=by
   clear h
   induction j using Nat.strongRecOn with
   |ind j ih=>
    by_cases c: ∃i,i<j/\l[i]!.1.data.toList=l[k]!.1.data.toList
    ·obtain⟨i,hi,he⟩:=c
     obtain⟨m,hm,r⟩:=ih i hi (by omega) he;exact⟨m,by omega,r⟩
    ·exact⟨j,zzL _,e,fun i hi he=>c ⟨i,hi,he⟩⟩
  obtain⟨m,hm,he,hmin⟩:=hm;have:=idxBy_hit (fun _ y:Ch=>y.1.toList==l[k]!.1.toList) l l.length m default (by omega) (zzL _) (by simp only [zzq14];exact beq_iff_eq.2 he) (fun i hi=>by simp only [zzq14];exact zzB.2 (hmin i hi))
  omega
 ·intro h
  refine idxBy_hit _ l l.length k default hk (zzL _) (by simp) (fun j hj=>?_);have:=h j hj;simp only [zzq14];exact zzB.2 this
theorem zkG (b off c:Nat) (l:List Ch) (w:World) (hr:RowAt w b off l) (hbig:l.length<=9223372036854775807):
  Calls Tryz.prog 23 #[.slice (some ⟨b,off,none⟩) l.length c] w fun e w'=>e= .returned (.bool (dst l))/\Below w.heap.size w w':=by
 have HR:=zzH hr;go_in;go_wp2;go_loopw [8] (fun i wr=> ∃k:Nat,k<=l.length/\i= .int .i64 k/\Below w.heap.size w wr/\Hid (∀j,j<k->zeO l j=true)) (fun i _=>l.length-(intOf i).toNat)
 case atStart=>exact⟨0,zzZ _,rfl,zzR _ _,zzH (fun j hj=>absurd hj (zzC _))⟩
 case round=>
  obtain⟨k,hk,rfl,hB,HG⟩:=hrel;rename World=>wr
  by_cases hlt:k<l.length
  ·have hrr:=HR.out.below hB HR.out.1
   have hc0:=(hrr.2 k hlt).1;have hc1:=(hrr.2 k hlt).2;have hgood:zeO l k=(nm l[k]!.1.data.toList&&decide (∀j,j<k->l[j]!.1.data.toList≠l[k]!.1.data.toList)):=rfl
   have hix:=zqS hlt;have HGOOD:=zzH hgood;have HIX:=zzH hix;clear hgood hix;generalize hn:l[k]!.1=n at *
   generalize l[k]!.2=d at *
   have HN:=zzH hn;clear hn hrr
   cases hnm:nm n.data.toList with
   |false=>
    have E:Hid (dst l=false):=zzH (ziA hlt (by rw [HGOOD.out,hnm];rfl));go_wp2_with (go_at_call 64;refine(zhl _ _).mono ?_;rintro e w1 ⟨rfl,hb1⟩);go_ret;exact⟨zdk E.out.symm,(hB.alloc hB.size _).trans (hb1.mono (by simp;have:=hB.size;omega))⟩
   |true=>
    go_wp2_with fail;refine(zhl _ _).mono ?_;rintro e w1 ⟨rfl,hb1⟩;have hB1:Below w.heap.size w w1:=(hB.alloc hB.size _).trans (hb1.mono (by simp;have:=hB.size;omega));have hbox:w1.cell? ⟨wr.heap.size,0,none⟩=some (.string n):=(hb1.cell (p:=⟨wr.heap.size,0,none⟩) (by simp)).trans (by rw [World.cell?_alloc_at _ _ _ _ rfl];rfl);have hsz:wr.heap.size<w1.heap.size:=zzW (by simp) hb1.size;go_wp2_with fail;have hif:=zjX b off c l n wr.heap.size w1 (HR.out.below hB1 HR.out.1) hbig hsz hbox;generalize hr0:Lib.idxBy (fun _ y:Ch=>y.1.toList==n.toList) (l.take l.length) default=r at *;refine hif.mono ?_;rintro e w2 ⟨rfl,hb2⟩;have hB2:Below w.heap.size w w2:=hB1.trans (hb2.mono hB1.size);clear hif;by_cases same:r=(k:Int)
    ·have hg:zeO l k=true:=by rw [HGOOD.out,hnm,decide_eq_true (HIX.out.1 same)];rfl
     have HG2:Hid (∀j,j<k+1->zeO l j=true):=zzH (fun j hj=>by
      rcases Nat.eq_or_lt_of_le (Nat.le_of_lt_succ hj)with e|e
      ·rw [e];exact hg
      ·exact HG.out j e)
     have hs : (r != (k : Int)) = false := by rw [same]; simp
     clear same hg hr0;go_wp2_with fail;go_roundw
     case rel=>exact⟨k+1,by omega,by go_num,hB2,HG2⟩
     case measure=>simp [intOf];omega
    ·have hg:zeO l k=false:=by rw [HGOOD.out,hnm,decide_eq_false (fun c=>same (HIX.out.2 c))];rfl
     have E:Hid (dst l=false):=zzH (ziA hlt hg);have hs : (r != (k : Int)) = true := by rw [bne_iff_ne]; exact same
     clear same hg hr0;go_wp2;go_ret;exact⟨zdk E.out.symm,hB2⟩
  ·go_wp2
   go_ret;exact⟨zdk (zml (fun i hi=>HG.out i (by omega))).symm,hB⟩
def ListS (w:World) (ao:Option Addr) (l:List Ch):Prop:=l= []\/ ∃b off,ao=some ⟨b,off,none⟩/\RowAt w b off l
theorem ListS.below {w w':World} {ao:zzA} {l:List Ch} (h:ListS w ao l) (hb:Below w.heap.size w w'):ListS w' ao l:=
 h.elim (fun h=>.inl h) (fun⟨b,off,e,hr⟩=>.inr ⟨b,off,e,hr.below hb hr.1⟩)
theorem ListS.row {w:World} {ao:zzA} {l:List Ch} {k:Nat} (h:ListS w ao l) (hk:k<l.length): ∃b off,ao=some ⟨b,off,none⟩/\RowAt w b off l:=
 h.elim (fun e=>by rw [e]at hk;exact absurd hk (zzC _)) (fun h=>h)
def ListAt (w:World) (v:Value) (l:List Ch):Prop:= ∃ao c,v= .slice ao l.length c/\ListS w ao l
theorem zdM (w:World):ListAt w (.slice none 0 0) []:=⟨none,0,rfl,.inl rfl⟩
theorem zh0 {w:World} {v:Value} {l:List Ch} (h:ListAt w v l): ∃ao c,v= .slice ao l.length c/\ListS w ao l:=h
theorem ListAt.below {w w':World} {v:Value} {l:List Ch} (h:ListAt w v l) (hb:Below w.heap.size w w'):ListAt w' v l:=by
 obtain⟨ao,c,e,hs⟩:=h;exact⟨ao,c,e,hs.below hb⟩
theorem zli (ao:zzA) (c:Nat) (w:World):
  Calls Tryz.prog 23 #[.slice ao 0 c] w fun e w'=>e= .returned (.bool true)/\Below w.heap.size w w':=by
 go_in;go_wp2_with fail;go_loopw [8] (fun i wr=>i= .int .i64 0/\wr=w) (fun _ _=>0)
 case atStart=>exact⟨rfl,rfl⟩
 case round=>
  obtain⟨rfl,rfl⟩:=hrel;exact zz6
theorem zgP (ao:zzA) (c:Nat) (l:List Ch) (w:World) (h:ListS w ao l) (hl:l.length<=9223372036854775807):
  Calls Tryz.prog 23 #[.slice ao l.length c] w fun e w'=>e= .returned (.bool (dst l))/\Below w.heap.size w w':=by
 rcases h with rfl|⟨b,off,rfl,hr⟩
 ·exact zli ao c w
 ·exact zkG b off c l w hr hl
open Go.RowKit Go.Shelf Go.Lib
theorem zfY {l:List Ch} (h:zf7 l) (z:Nat): ∀k,k<=l.length->(zcZ z (l.take k)).length+12<=szL (l.take k)+k*100
 |0,_=>by simp [zcZ,be4,szL]
 |k+1,hk=>by
  have ih:=zfY h z k (by omega);have h1:=h.2 k (by omega);have h2:=(zcS l[k]!.2.size).2
  have e1:l[k]!.1.data.toList.length=l[k]!.1.size:=zbP _
  have e2:l[k]!.2.data.toList.length=l[k]!.2.size:=zbP _
  have e3:(be4 l[k]!.2.size).length=4:=rfl
  have e4:=(zcS l[k]!.2.size).1
  rw [zga z (by omega),zfg (by omega)];simp only [chB,zzq1,List.length_replicate];omega
theorem zd3 (m:Nat):(ByteArray.mk (be4 m).toArray).size=4:=rfl
theorem zt8 {l:List UInt8} {s:ByteArray} (h:l.length<=17000000) (hs:s.size=8):l.length+s.size<=140737488355328:=by omega
theorem zeP (a b:List UInt8):(⟨a.toArray⟩++⟨b.toArray⟩:ByteArray)=⟨(a++b).toArray⟩:=by
 apply ByteArray.ext;rw [ByteArray.data_append];simp
theorem zr6 {s t:ByteArray} {a b:Int} (h:s=t) (h':a=b):Ending.returned (.tuple #[.string s,.int .i64 a])= .returned (.tuple #[.string t,.int .i64 b]):=by rw [h,h']
theorem zfZ {l m:List UInt8} {a b:Int} (h:l=m) (h':a=b):Ending.returned (.tuple #[.string ⟨l.toArray⟩,.int .i64 a])= .returned (.tuple #[.string ⟨m.toArray⟩,.int .i64 b]):=by rw [h,h']
theorem zr8 (ao:zzA) (c:Nat) (l:List Ch) (w:World) (hr:ListS w ao l) (hs:zf7 l):
  Calls Tryz.prog 11 #[.slice ao l.length c] w fun e w'=>e= .returned (.tuple #[.string ⟨(zbQ l).toArray⟩,.int .i64 (zbx l)])/\Below w.heap.size w w':=by
 have HR:=zzH hr;have HS:=zzH hs;have hlen:=hs.1;clear hr hs
 cases hd:dst l with
 |false=>
  have E1:Hid (zbQ l= []):=zzH (by unfold zbQ;rw [hd];rfl);have E2:Hid (zbx l=2):=zzH (by unfold zbx;rw [hd];rfl);go_in;go_wp2_with (go_at_call 23;refine(zgP _ _ _ _ HR.out (by omega)).mono ?_;rintro e w1 ⟨rfl,hb1⟩);go_ret2;exact⟨zfZ E1.out.symm E2.out.symm,hb1⟩
 |true=>
  go_in;go_wp2_with (go_at_call 23;refine(zgP _ _ _ _ HR.out (by omega)).mono ?_;rintro e w1 ⟨rfl,hb1⟩);go_loopw [4,15] (fun n i wr=> ∃k:Nat,k<=l.length/\i= .int .i64 k/\n= .int .i64 (szL (l.take k))/\Below w.heap.size w wr) (fun _ i _=>l.length-(intOf i).toNat)
  case atStart=>exact⟨0,zzZ _,rfl,rfl,hb1⟩
  case round=>
   obtain⟨k,hk,rfl,rfl,hB⟩:=hrel;rename World=>wr
   have hz:=zgo HS.out k hk;by_cases hlt:k<l.length
   ·have hst:=zfg hlt
    have HST:=zzH hst;clear hst;obtain⟨b,off,hao,hrr0⟩:=HR.out.row hlt;subst hao;have hrr:=hrr0.below hB hrr0.1;have hc0:=(hrr.2 k hlt).1;have hc1:=(hrr.2 k hlt).2;have hsz:=(HS.out.2 k hlt).1;clear hrr hrr0;generalize l[k]!.1=n at *
    generalize l[k]!.2=d at *
    generalize szL (l.take k)=z at *;go_wp2_with (go_at_call 24;refine(zfK _ _ (by omega) (by omega)).mono ?_;rintro e w2 ⟨rfl,rfl⟩);go_roundw
    case rel=>exact⟨k+1,by omega,by go_num,by rw [HST.out];exact congrArg (Value.int .i64) (by unfold zbm;omega),hB.alloc hB.size _⟩
    case measure=>simp [intOf];omega
   ·have hfull:l.take k=l:=List.take_of_length_le (by omega)
    rw [hfull]at hz ⊢;clear hfull;by_cases hlong:16<l.length
    ·have E1:Hid (zbQ l= []):=zzH (by unfold zbQ;rw [hd,if_pos (rfl),if_pos (Or.inl hlong)])
     have E2:Hid (zbx l=3):=zzH (by unfold zbx;rw [hd,if_pos (rfl),if_pos (Or.inl hlong)]);go_wp2;go_ret2;exact⟨zfZ E1.out.symm E2.out.symm,hB⟩
    by_cases hbig:16777216<szL l
    ·have E1:Hid (zbQ l= []):=zzH (by unfold zbQ;rw [hd,if_pos (rfl),if_pos (Or.inr hbig)])
     have E2:Hid (zbx l=3):=zzH (by unfold zbx;rw [hd,if_pos (rfl),if_pos (Or.inr hbig)]);generalize szL l=z at *;go_wp2;go_ret2;exact⟨zfZ E1.out.symm E2.out.symm,hB⟩
    ·have HMO:Hid (∀k,k<=l.length->szL (l.take k)<=szL l):=zzH (fun k hk=>zrJ l hk)
     have E1:Hid (zbQ l=zix l):=zzH (by unfold zbQ;rw [hd,if_pos (rfl),if_neg (by omega)]);have E2:Hid (zbx l=0):=zzH (by unfold zbx;rw [hd,if_pos (rfl),if_neg (by omega)]);generalize hzz:szL l=z at *;have HZ:=zzH hzz;clear hzz;go_wp2_with (go_at_call 26;refine(zdj _ _ (by omega) (by omega)).mono ?_;rintro e w2 ⟨rfl,hb2⟩);have hI:=(zsj wr hB.size).below hb2;have hB2:Below w.heap.size w w2:=(hB.alloc hB.size _).trans (hb2.mono (by simp;have:=hB.size;omega));generalize wr.heap.size=b0 at *;clear hb2;refine(zf2 w.heap.size b0 [] _ w2 hI (by rw [ByteArray.size_append];simp [be4,ByteArray.size])).mono ?_;rintro e w3 ⟨rfl,hI3,hb3,_⟩;have hB3:Below w.heap.size w w3:=hB2.trans hb3;clear hI hb3;go_wp2_with fail;go_loopw [41] (fun i wq=> ∃k:Nat,k<=l.length/\i= .int .i64 k/\IsB w.heap.size b0 (zcZ z (l.take k)) wq/\Below w.heap.size w wq) (fun i _=>l.length-(intOf i).toNat)
     case atStart=>exact⟨0,zzZ _,rfl,by simpa [zcZ,Lib.strCells,ByteArray.data_append] using hI3,hB3⟩
     case round=>
      obtain⟨k,hk,rfl,hI4,hB4⟩:=hrel;rename World=>wq
      by_cases hlt:k<l.length
      ·obtain⟨b,off,hao,hrr0⟩:=HR.out.row hlt
       subst hao;have hrr:=hrr0.below hB4 hrr0.1;have hc0:=(hrr.2 k hlt).1;have hc1:=(hrr.2 k hlt).2;have hsz:=(HS.out.2 k hlt).1;have hnz:=(HS.out.2 k hlt).2;have HRT:=zzH (zga z hlt);have hdz:l[k]!.2.size<=16777216:=by have h1:=zfg hlt;have h2:=HMO.out (k+1) (by omega);have h3:=(zcS l[k]!.2.size).1;omega
       clear hrr hrr0;generalize hn:l[k]!.1=n at *
       generalize hdd:l[k]!.2=d at *
       have HN:=zzH hn;have HD:=zzH hdd;clear hn hdd;go_upto_region 16 with fail;have hbe:(be4 d.size).length=4:=rfl;have hrl:(zcZ z (l.take k)).length<=17000000:=by have:=zfY HS.out z k hk;have:=HMO.out k hk;omega
       have hsz1:(n++ByteArray.mk (be4 d.size).toArray).size=n.size+4:=by rw [ByteArray.size_append,zd3]
       have hadd1:=fun wx=>run_string_add_sum (P:=Tryz.prog) wx n (ByteArray.mk (be4 d.size).toArray) (by rw [zd3];omega)
       have hadd2:=fun wx=>run_string_add_sum (P:=Tryz.prog) wx (n++ByteArray.mk (be4 d.size).toArray) d (by rw [hsz1];omega)
       have hsz2:(n++ByteArray.mk (be4 d.size).toArray++d).size<=17000000:=by rw [ByteArray.size_append,hsz1];omega
       have hdata:Hid ((n++ByteArray.mk (be4 d.size).toArray++d).data.toList=n.data.toList++be4 d.size++d.data.toList):=zzH (by simp [ByteArray.data_append]);have HSZ1:=zzH hsz1;clear hsz1;have hIa:IsB w.heap.size b0 (zcZ z (l.take k)) (wq.alloc (.cells #[.string n,.string d] 46)):=hI4.below (zzE _ _);have hBa:Below w.heap.size w (wq.alloc (.cells #[.string n,.string d] 46)):=hB4.alloc hB4.size _;have hca:(wq.alloc (.cells #[.string n,.string d] 46)).heap[wq.heap.size]?=some (.cells #[.string n,.string d] 46 (0,0)):=zzF _ _
       have hCb:wq.heap.size≠b0:=fun e=>absurd hI4.lt (by rw [e];exact Nat.lt_irrefl _)
       generalize wq.alloc (.cells #[.string n,.string d] 46)=wa at *;generalize wq.heap.size=C at *;have ha0:wa.cell? ⟨C,0,none⟩=some (.string n):=by rw [zzq2 _ _ _ _ _ _ hca];rfl
       have ha1:wa.cell? ⟨C,1,none⟩=some (.string d):=by rw [zzq2 _ _ _ _ _ _ hca];rfl
       have hCs:C<wa.heap.size:=(Array.getElem?_eq_some_iff.1 hca).1;have HCA:=zzH hca;clear hca;go_cut [55] (fun s55 wx=>IsB w.heap.size b0 (zcZ z (l.take k)++(n.data.toList++be4 d.size++d.data.toList)) wx/\Below w.heap.size w wx/\wx.heap[C]?=some (.cells #[.string n,.string d] 46 (0,0)))
       case first=>
        go_region_held3 (fun w'=>w'.cell? ⟨C,0,none⟩=some (.string n)/\w'.cell? ⟨C,1,none⟩=some (.string d)) (exact⟨by assumption,by assumption⟩)
         (first
          |(go_at_call 26;refine(zdj _ _ ?_ ?_).mono ?_;omega;omega;rintro e w5 ⟨rfl,hb5⟩;have q0:w5.cell? ⟨C,0,none⟩=some (.string n):=(hb5.cell (p:=⟨C,0,none⟩) hCs).trans ha0;have q1:w5.cell? ⟨C,1,none⟩=some (.string d):=(hb5.cell (p:=⟨C,1,none⟩) hCs).trans ha1;have qh:w5.heap[C]?=some (.cells #[.string n,.string d] 46 (0,0)):=(hb5.block C hCs).trans HCA.out;have qI:IsB w.heap.size b0 (zcZ z (l.take k)) w5:=IsB.below (IsB.drew hIa) hb5;have qB:Below w.heap.size w w5:=hBa.drew.trans (hb5.mono hBa.size);have HQH:=zzH qh;clear qh)
          |(go_at_call 25;refine(zf2 w.heap.size b0 _ _ _ (by assumption) ?_).mono ?_;omega;rintro e w6 ⟨rfl,hI6,hb6,hk6⟩;have qh6:=hk6 C _ HQH.out (fun e=>hCb (zzf e)) (fun _ _ h=>by cases h);have q06:w6.cell? ⟨C,0,none⟩=some (.string n):=(by rw [zzq2 _ _ _ _ _ _ qh6];rfl);have q16:w6.cell? ⟨C,1,none⟩=some (.string d):=(by rw [zzq2 _ _ _ _ _ _ qh6];rfl);have qB6:Below w.heap.size w w6:=qB.trans hb6;have HQH6:=zzH qh6;clear qh6))
        go_wp2_with fail;go_meet
        case rel=>exact⟨by rw [<-hdata.out];exact hI6,qB6,HQH6.out⟩
       case rest=>
        obtain⟨hI7,hB7,hC7⟩:=hcut;go_upto_region 17 with fail;have hp1:=(zcS d.size).1;have hp2:=(zcS d.size).2;have hpe:(((d.size:Int)+3)/4*4)=(zbm d.size:Int):=by unfold zbm;omega
        have hHC:=zzH hC7;have hc70:wc.cell? ⟨C,0,none⟩=some (.string n):=by rw [zzq2 _ _ _ _ _ _ hC7];rfl
        have hc71:wc.cell? ⟨C,1,none⟩=some (.string d):=by rw [zzq2 _ _ _ _ _ _ hC7];rfl
        clear hC7;have hsub:(zbm d.size:Int)-(d.size:Int)=((zbm d.size-d.size:Nat):Int):=by omega
        have hm3:zbm d.size-d.size<=3:=by omega
        have hpad: ∀wx,Calls Tryz.prog 24 #[.int .i64 d.size] wx fun e w'=>e= .returned (.int .i64 (zbm d.size:Int))/\wx=w':=fun wx=>by
         have:=zfK d.size wx (by omega) (by omega);rw [hpe]at this;exact this
        clear hpe;generalize hM:zbm d.size-d.size=m at *;generalize hP:zbm d.size=Pd at *;have hmi:(m:Int)<=3:=by omega
        have hmw:IntKind.i64.wrap (m:Int)=m:=by
         have:m=0\/m=1\/m=2\/m=3:=by omega
         rcases this with h|h|h|h<;>rw [h]<;>rfl
        have hsl: ∀wx,(Instr.slice 9 (.string ⟨#[0,0,0]⟩) none (some (.int .i64 (m:Int))) none).run Tryz.prog wx= .ok (.string ⟨Array.replicate m 0⟩) wx:=fun wx=>by
         rw [run_slice_string_to_if (h:=by kernel_rfl),if_pos ⟨by omega,by simpa [ByteArray.size] using hmi⟩];have:m=0\/m=1\/m=2\/m=3:=by omega
         rcases this with h|h|h|h<;>rw [h]<;>rfl
        have hpm:((⟨Array.replicate m 0⟩:ByteArray)).size=m:=Array.size_replicate
        have hl7:(zcZ z (l.take k)++(n.data.toList++be4 d.size++d.data.toList)).length<=40000000:=by
         have e1:n.data.toList.length=n.size:=zbP _;have e2:d.data.toList.length=d.size:=zbP _;simp only [zzq1];omega
        go_region_held3 (fun w'=>w'.cell? ⟨C,0,none⟩=some (.string n)/\w'.cell? ⟨C,1,none⟩=some (.string d)) (exact⟨by assumption,by assumption⟩)
         (first
          |(go_at_call 24;refine(hpad _).mono ?_;rintro e w5 ⟨rfl,rfl⟩)
          |(go_at_call 25;refine(zf2 w.heap.size b0 _ _ _ (by assumption) ?_).mono ?_;omega;rintro e w6 ⟨rfl,hI6,hb6,hk6⟩;have qh6:=hk6 C _ hHC.out (fun e=>hCb (zzf e)) (fun _ _ h=>by cases h);have q06:w6.cell? ⟨C,0,none⟩=some (.string n):=(by rw [zzq2 _ _ _ _ _ _ qh6];rfl);have q16:w6.cell? ⟨C,1,none⟩=some (.string d):=(by rw [zzq2 _ _ _ _ _ _ qh6];rfl);have qB6:Below w.heap.size w w6:=hB7.drew.trans hb6;clear qh6))
        go_wp2_with fail;go_roundw
        case rel=>exact⟨k+1,by omega,by go_num,by rw [HRT.out,chB,HN.out,HD.out,hP,hM];simpa using hI6,qB6⟩
        case measure=>simp [intOf];omega
      ·have hfull:l.take k=l:=List.take_of_length_le (by omega)
       have hrl:(zcZ z (l.take k)).length<=17000000:=by have:=zfY HS.out z k hk;have:=HMO.out k hk;omega
       rw [hfull]at hI4 hrl;clear hfull
       go_upto_region 20 with(first
        |(go_at_call 26;refine(zdj _ _ (by omega) (by omega)).mono ?_;rintro e w5 ⟨rfl,hb5⟩)
        |(go_at_call 25;refine(zf2 w.heap.size b0 _ _ _ (hI4.below hb5) ?_).mono ?_;exact zt8 hrl (by rw [ByteArray.size_append];rfl);rintro e w6 ⟨rfl,hI6,hb6,hk6⟩))
       have hbl:zbH l=zcZ z l++([67,83,85,77]++be4 4):=by rw [zbH,HZ.out]
       have hI7:IsB w.heap.size b0 (zbH l) w6:=by rw [hbl];simpa [ByteArray.data_append] using hI6
       have hbz:(zbH l).length<=17000100:=by rw [hbl];simp only [zzq1];simp [be4];omega
       have hB6:Below w.heap.size w w6:=hB4.trans ((hb5.mono hB4.size).trans hb6);have hcl:=zij (zbH l);have HB:=zzH hbl;clear hI6 hI4 hbl;have hfl:Hid (zix l=zbH l++be4 (crc (zbH l))):=zzH rfl;generalize zbH l=B at *;have hadd: ∀wx,Sem.run Tryz.prog (Op.stringOp BinOp.add ⟨B.toArray⟩ ⟨(be4 (crc B)).toArray⟩) wx= .ok (.string (⟨B.toArray⟩++⟨(be4 (crc B)).toArray⟩)) wx:=fun wx=>run_string_add_sum wx _ _ (by rw [zd3];show B.toArray.size+4<=_;simp;omega)
       have hsm: ∀wx,Calls Tryz.prog 13 #[.string ⟨B.toArray⟩] wx fun e w'=>e= .returned (.int .u32 (crc B))/\Below wx.heap.size wx w':=fun wx=>zfG ⟨B.toArray⟩ wx (by show B.toArray.size<=maxLen;unfold maxLen;simp;omega)
       go_wp2_with (first
        |(go_at_call 27;refine(znm _ _ _ _ (by assumption)).mono ?_;rintro e w8 ⟨rfl,hI8,hb8⟩)
        |(go_at_call 13;refine(hsm _).mono ?_;rintro e w9 ⟨rfl,hb9⟩)
        |(go_at_call 26;refine(zdj _ _ (by omega) (by omega)).mono ?_;rintro e w10 ⟨rfl,hb10⟩))
       go_ret2;refine⟨zr6 (by rw [E1.out,hfl.out];exact(zeP _ _)) E2.out.symm,?_⟩;rename_i w8a hI8a hb8a;have x1:=hB6.trans hb8a;have x2:=x1.trans hb8;have x3:=x2.trans (hb9.mono x2.size);exact x3.trans (hb10.mono x3.size)
open Go.RowKit Go.Shelf Go.Lib
theorem zid {s:ByteArray} {k:Nat} (h:k<s.size) (e:zbF s[k].toNat=false):nm s.data.toList=false:=by
 unfold nm
 have:(s.data.toList.all fun b=>zbF b.toNat)=false:=by
  rw [List.all_eq_false];exact⟨s[k],zzM (by rw [zbP];exact h),by rw [e];decide⟩
 rw [this];simp
theorem zty {s:ByteArray} (h: ∀j,∀h:j<s.size,zbF s[j].toNat=true):nm s.data.toList=(decide (s.data.toList.length=4)&& !decide (s.data.toList= [67,83,85,77])):=by
 unfold nm
 have:(s.data.toList.all fun b=>zbF b.toNat)=true:=by
  rw [List.all_eq_true];intro x hx;obtain⟨j,hj,rfl⟩:=List.getElem_of_mem hx;exact h j (by rw [zbP]at hj;exact hj)
 rw [this];simp
theorem zhh (s:ByteArray) (w:World) (hs:s.size<=maxLen):
  Calls Tryz.prog 90 #[.string s] w fun e w'=>e= .returned (.bool (nm s.data.toList))/\w=w':=by
 unfold maxLen at hs;have HL:=zzH (zbP s);go_in;go_wp2;go_loop [3] (fun i=> ∃k:Nat,k<=s.size/\i= .int .i64 k/\Hid (∀j,∀h:j<s.size,j<k->zbF s[j].toNat=true)) (fun i=>s.size-(intOf i).toNat)
 case atStart=>exact⟨0,zzZ _,rfl,zzH (fun j h hj=>absurd hj (zzC _))⟩
 case round=>
  obtain⟨k,hk,rfl,HG⟩:=hrel;by_cases hlt:k<s.size
  ·have hr256:s[k].toNat<256:=s[k].toNat_lt
   by_cases h1:97<=s[k].toNat
   ·by_cases h2:s[k].toNat<=122
    ·have e:zbF s[k].toNat=true:=by unfold zbF;simp;omega
     have HG2:Hid (∀j,∀h:j<s.size,j<k+1->zbF s[j].toNat=true):=zzH (fun j h hj=>by
      rcases Nat.eq_or_lt_of_le (Nat.le_of_lt_succ hj)with e'|e'
      ·subst e';exact e
      ·exact HG.out j h e')
     clear e;have t0:decide ((97:Int)<=(s[k].toNat:Int))=true:=by exact zzT (by omega)
     have t1:decide ((s[k].toNat:Int)<=122)=true:=by exact zzT (by omega)
     exact zz7
    ·have e:zbF s[k].toNat=false:=by unfold zbF;simp;omega
     have E:Hid (nm s.data.toList=false):=zzH (zid hlt e);clear e;have t0:decide ((97:Int)<=(s[k].toNat:Int))=true:=by exact zzT (by omega)
     have t1:decide ((s[k].toNat:Int)<=122)=false:=by exact zzD (by omega)
     have t2:decide ((65:Int)<=(s[k].toNat:Int))=true:=by exact zzT (by omega)
     have t3:decide ((s[k].toNat:Int)<=90)=false:=by exact zzD (by omega)
     have t4:decide ((48:Int)<=(s[k].toNat:Int))=true:=by exact zzT (by omega)
     have t5:decide ((s[k].toNat:Int)<=57)=false:=by exact zzD (by omega)
     exact zz8
   ·by_cases h3:65<=s[k].toNat
    ·by_cases h4:s[k].toNat<=90
     ·have e:zbF s[k].toNat=true:=by unfold zbF;simp;omega
      have HG2:Hid (∀j,∀h:j<s.size,j<k+1->zbF s[j].toNat=true):=zzH (fun j h hj=>by
       rcases Nat.eq_or_lt_of_le (Nat.le_of_lt_succ hj)with e'|e'
       ·subst e';exact e
       ·exact HG.out j h e')
      clear e;have t0:decide ((97:Int)<=(s[k].toNat:Int))=false:=by exact zzD (by omega)
      have t1:decide ((65:Int)<=(s[k].toNat:Int))=true:=by exact zzT (by omega)
      have t2:decide ((s[k].toNat:Int)<=90)=true:=by exact zzT (by omega)
      exact zz7
     ·have e:zbF s[k].toNat=false:=by unfold zbF;simp;omega
      have E:Hid (nm s.data.toList=false):=zzH (zid hlt e);clear e;have t0:decide ((97:Int)<=(s[k].toNat:Int))=false:=by exact zzD (by omega)
      have t1:decide ((65:Int)<=(s[k].toNat:Int))=true:=by exact zzT (by omega)
      have t2:decide ((s[k].toNat:Int)<=90)=false:=by exact zzD (by omega)
      have t3:decide ((48:Int)<=(s[k].toNat:Int))=true:=by exact zzT (by omega)
      have t4:decide ((s[k].toNat:Int)<=57)=false:=by exact zzD (by omega)
      exact zz8
    ·by_cases h5:48<=s[k].toNat
     ·by_cases h6:s[k].toNat<=57
      ·have e:zbF s[k].toNat=true:=by unfold zbF;simp;omega
       have HG2:Hid (∀j,∀h:j<s.size,j<k+1->zbF s[j].toNat=true):=zzH (fun j h hj=>by
        rcases Nat.eq_or_lt_of_le (Nat.le_of_lt_succ hj)with e'|e'
        ·subst e';exact e
        ·exact HG.out j h e')
       clear e;have t0:decide ((97:Int)<=(s[k].toNat:Int))=false:=by exact zzD (by omega)
       have t1:decide ((65:Int)<=(s[k].toNat:Int))=false:=by exact zzD (by omega)
       have t2:decide ((48:Int)<=(s[k].toNat:Int))=true:=by exact zzT (by omega)
       have t3:decide ((s[k].toNat:Int)<=57)=true:=by exact zzT (by omega)
       exact zz7
      ·have e:zbF s[k].toNat=false:=by unfold zbF;simp;omega
       have E:Hid (nm s.data.toList=false):=zzH (zid hlt e);clear e;have t0:decide ((97:Int)<=(s[k].toNat:Int))=false:=by exact zzD (by omega)
       have t1:decide ((65:Int)<=(s[k].toNat:Int))=false:=by exact zzD (by omega)
       have t2:decide ((48:Int)<=(s[k].toNat:Int))=true:=by exact zzT (by omega)
       have t3:decide ((s[k].toNat:Int)<=57)=false:=by exact zzD (by omega)
       exact zz8
     ·have e:zbF s[k].toNat=false:=by unfold zbF;simp;omega
      have E:Hid (nm s.data.toList=false):=zzH (zid hlt e);clear e;have t0:decide ((97:Int)<=(s[k].toNat:Int))=false:=by exact zzD (by omega)
      have t1:decide ((65:Int)<=(s[k].toNat:Int))=false:=by exact zzD (by omega)
      have t2:decide ((48:Int)<=(s[k].toNat:Int))=false:=by exact zzD (by omega)
      exact zz8
  ·have hall: ∀j,∀h:j<s.size,zbF s[j].toNat=true:=fun j h=>HG.out j h (by omega)
   have HN:=zzH (zty hall);clear hall;by_cases h4:s.size=4
   ·have hl4:((s.size:Int)==4)=true:=by rw [h4];rfl
    by_cases hc:s.data.toList= [67,83,85,77]
    ·have E:Hid (nm s.data.toList=false):=zzH (by rw [hc];rfl)
     have h2:(s.toList== [67,83,85,77])=true:=by rw [zzq14,hc];rfl
     clear hc h4;exact zz8
    ·have E:Hid (nm s.data.toList=true):=zzH (by rw [HN.out,decide_eq_true (by rw [HL.out];exact h4),decide_eq_false hc];rfl)
     have h2:(s.toList== [67,83,85,77])=false:=by rw [zzq14];simpa using hc
     clear hc h4;exact zz8
   ·have hl4:((s.size:Int)==4)=false:=by rw [zzq3];omega
    have E:Hid (nm s.data.toList=false):=zzH (by unfold nm;rw [decide_eq_false (by rw [HL.out];exact h4)];rfl);clear h4;exact zz8
theorem zn2 (u:RUnit) (lo fo go co:zzA) (lc fc gc cc:Nat) (x:RIns) (so co' go':zzA) (sc cc' gc':Nat) (w:World) (hl:u.funcs.length<=9223372036854775807) (hl2:u.funs.length<=9223372036854775807) (hf:SlAt w 3 zbA go u.funs) (r1:I64 x.n) (r2:x.src.length<=9223372036854775807) (hop:x.op=5):
  Calls Tryz.prog 83 #[.agg (zzu u lo lc fo fc go gc co cc),.agg (zzi x so sc co' cc' go' gc')] w fun e w'=>e= .returned (.bool (zl u.funcs.length u.funs x))/\Below w.heap.size w w':=by
 unfold zzi zzu;obtain⟨r1a,r1b⟩:=r1;have HF:=zzH hf;have hw1:=zzV u.funcs.length (by omega)
 have hw2:=zzV u.funs.length (by omega)
 clear hf;have E:Hid (zl u.funcs.length u.funs x=wi x.n 0 254):=zzH (by unfold zl;rw [hop];rfl);have HOP:=zzH hop;clear hop;go_in;go_upto_region 1 with fail;obtain⟨hU,hX,hBW⟩:=zbC w u lo fo go co lc fc gc cc x so co' go' sc cc' gc';generalize hWW:(w.alloc (.cells (zzu u lo lc fo fc go gc co cc) 27)).alloc (.cells (zzi x so sc co' cc' go' gc') 36)=W at *;have c0:=hX.c0;have c3:=hX.c3;have c5:=hX.c5;have b3:=hU.c3;have b4:=hU.c4;have hlu:=hU.lt;have hlx:=hX.lt;have HBW:=zzH hBW;clear hU hX hBW hWW;rw [HOP.out]at c0;go_wp2_with (go_at_call 122;refine(zK _ _ _ _).mono ?_;rintro e w1 ⟨rfl,rfl⟩);go_ret;exact⟨zn E.out.symm,HBW.out⟩
theorem zoo (u:RUnit) (lo fo go co:zzA) (lc fc gc cc:Nat) (x:RIns) (so co' go':zzA) (sc cc' gc':Nat) (w:World) (hl:u.funcs.length<=9223372036854775807) (hl2:u.funs.length<=9223372036854775807) (hf:SlAt w 3 zbA go u.funs) (r1:I64 x.n) (r2:x.src.length<=9223372036854775807) (hop:x.op=9):
  Calls Tryz.prog 83 #[.agg (zzu u lo lc fo fc go gc co cc),.agg (zzi x so sc co' cc' go' gc')] w fun e w'=>e= .returned (.bool (zl u.funcs.length u.funs x))/\Below w.heap.size w w':=by
 unfold zzi zzu;obtain⟨r1a,r1b⟩:=r1;have HF:=zzH hf;have hw1:=zzV u.funcs.length (by omega)
 have hw2:=zzV u.funs.length (by omega)
 clear hf;have E:Hid (zl u.funcs.length u.funs x=wi x.n 0 255):=zzH (by unfold zl;rw [hop];rfl);have HOP:=zzH hop;clear hop;go_in;go_upto_region 1 with fail;obtain⟨hU,hX,hBW⟩:=zbC w u lo fo go co lc fc gc cc x so co' go' sc cc' gc';generalize hWW:(w.alloc (.cells (zzu u lo lc fo fc go gc co cc) 27)).alloc (.cells (zzi x so sc co' cc' go' gc') 36)=W at *;have c0:=hX.c0;have c3:=hX.c3;have c5:=hX.c5;have b3:=hU.c3;have b4:=hU.c4;have hlu:=hU.lt;have hlx:=hX.lt;have HBW:=zzH hBW;clear hU hX hBW hWW;rw [HOP.out]at c0;go_wp2_with (go_at_call 122;refine(zK _ _ _ _).mono ?_;rintro e w1 ⟨rfl,rfl⟩);go_ret;exact⟨zn E.out.symm,HBW.out⟩
theorem zmX (u:RUnit) (lo fo go co:zzA) (lc fc gc cc:Nat) (x:RIns) (so co' go':zzA) (sc cc' gc':Nat) (w:World) (hl:u.funcs.length<=9223372036854775807) (hl2:u.funs.length<=9223372036854775807) (hf:SlAt w 3 zbA go u.funs) (r1:I64 x.n) (r2:x.src.length<=9223372036854775807) (hop:x.op=15):
  Calls Tryz.prog 83 #[.agg (zzu u lo lc fo fc go gc co cc),.agg (zzi x so sc co' cc' go' gc')] w fun e w'=>e= .returned (.bool (zl u.funcs.length u.funs x))/\Below w.heap.size w w':=by
 unfold zzi zzu;obtain⟨r1a,r1b⟩:=r1;have HF:=zzH hf;have hw1:=zzV u.funcs.length (by omega)
 have hw2:=zzV u.funs.length (by omega)
 clear hf;have E:Hid (zl u.funcs.length u.funs x=wi x.n 0 16):=zzH (by unfold zl;rw [hop];rfl);have HOP:=zzH hop;clear hop;go_in;go_upto_region 1 with fail;obtain⟨hU,hX,hBW⟩:=zbC w u lo fo go co lc fc gc cc x so co' go' sc cc' gc';generalize hWW:(w.alloc (.cells (zzu u lo lc fo fc go gc co cc) 27)).alloc (.cells (zzi x so sc co' cc' go' gc') 36)=W at *;have c0:=hX.c0;have c3:=hX.c3;have c5:=hX.c5;have b3:=hU.c3;have b4:=hU.c4;have hlu:=hU.lt;have hlx:=hX.lt;have HBW:=zzH hBW;clear hU hX hBW hWW;rw [HOP.out]at c0;go_wp2_with (go_at_call 122;refine(zK _ _ _ _).mono ?_;rintro e w1 ⟨rfl,rfl⟩);go_ret;exact⟨zn E.out.symm,HBW.out⟩
theorem znz (u:RUnit) (lo fo go co:zzA) (lc fc gc cc:Nat) (x:RIns) (so co' go':zzA) (sc cc' gc':Nat) (w:World) (hl:u.funcs.length<=9223372036854775807) (hl2:u.funs.length<=9223372036854775807) (hf:SlAt w 3 zbA go u.funs) (r1:I64 x.n) (r2:x.src.length<=9223372036854775807) (hop:x.op=18):
  Calls Tryz.prog 83 #[.agg (zzu u lo lc fo fc go gc co cc),.agg (zzi x so sc co' cc' go' gc')] w fun e w'=>e= .returned (.bool (zl u.funcs.length u.funs x))/\Below w.heap.size w w':=by
 unfold zzi zzu;obtain⟨r1a,r1b⟩:=r1;have HF:=zzH hf;have hw1:=zzV u.funcs.length (by omega)
 have hw2:=zzV u.funs.length (by omega)
 clear hf;have E:Hid (zl u.funcs.length u.funs x=wi x.n 0 16):=zzH (by unfold zl;rw [hop];rfl);have HOP:=zzH hop;clear hop;go_in;go_upto_region 1 with fail;obtain⟨hU,hX,hBW⟩:=zbC w u lo fo go co lc fc gc cc x so co' go' sc cc' gc';generalize hWW:(w.alloc (.cells (zzu u lo lc fo fc go gc co cc) 27)).alloc (.cells (zzi x so sc co' cc' go' gc') 36)=W at *;have c0:=hX.c0;have c3:=hX.c3;have c5:=hX.c5;have b3:=hU.c3;have b4:=hU.c4;have hlu:=hU.lt;have hlx:=hX.lt;have HBW:=zzH hBW;clear hU hX hBW hWW;rw [HOP.out]at c0;go_wp2_with (go_at_call 122;refine(zK _ _ _ _).mono ?_;rintro e w1 ⟨rfl,rfl⟩);go_ret;exact⟨zn E.out.symm,HBW.out⟩
theorem zmI (u:RUnit) (lo fo go co:zzA) (lc fc gc cc:Nat) (x:RIns) (so co' go':zzA) (sc cc' gc':Nat) (w:World) (hl:u.funcs.length<=9223372036854775807) (hl2:u.funs.length<=9223372036854775807) (hf:SlAt w 3 zbA go u.funs) (r1:I64 x.n) (r2:x.src.length<=9223372036854775807) (hop:x.op=19):
  Calls Tryz.prog 83 #[.agg (zzu u lo lc fo fc go gc co cc),.agg (zzi x so sc co' cc' go' gc')] w fun e w'=>e= .returned (.bool (zl u.funcs.length u.funs x))/\Below w.heap.size w w':=by
 unfold zzi zzu;obtain⟨r1a,r1b⟩:=r1;have HF:=zzH hf;have hw1:=zzV u.funcs.length (by omega)
 have hw2:=zzV u.funs.length (by omega)
 clear hf;have E:Hid (zl u.funcs.length u.funs x=wi x.n 0 16):=zzH (by unfold zl;rw [hop];rfl);have HOP:=zzH hop;clear hop;go_in;go_upto_region 1 with fail;obtain⟨hU,hX,hBW⟩:=zbC w u lo fo go co lc fc gc cc x so co' go' sc cc' gc';generalize hWW:(w.alloc (.cells (zzu u lo lc fo fc go gc co cc) 27)).alloc (.cells (zzi x so sc co' cc' go' gc') 36)=W at *;have c0:=hX.c0;have c3:=hX.c3;have c5:=hX.c5;have b3:=hU.c3;have b4:=hU.c4;have hlu:=hU.lt;have hlx:=hX.lt;have HBW:=zzH hBW;clear hU hX hBW hWW;rw [HOP.out]at c0;go_wp2_with (go_at_call 122;refine(zK _ _ _ _).mono ?_;rintro e w1 ⟨rfl,rfl⟩);go_ret;exact⟨zn E.out.symm,HBW.out⟩
theorem znH (u:RUnit) (lo fo go co:zzA) (lc fc gc cc:Nat) (x:RIns) (so co' go':zzA) (sc cc' gc':Nat) (w:World) (hl:u.funcs.length<=9223372036854775807) (hl2:u.funs.length<=9223372036854775807) (hf:SlAt w 3 zbA go u.funs) (r1:I64 x.n) (r2:x.src.length<=9223372036854775807) (hop:x.op=20):
  Calls Tryz.prog 83 #[.agg (zzu u lo lc fo fc go gc co cc),.agg (zzi x so sc co' cc' go' gc')] w fun e w'=>e= .returned (.bool (zl u.funcs.length u.funs x))/\Below w.heap.size w w':=by
 unfold zzi zzu;obtain⟨r1a,r1b⟩:=r1;have HF:=zzH hf;have hw1:=zzV u.funcs.length (by omega)
 have hw2:=zzV u.funs.length (by omega)
 clear hf;have E:Hid (zl u.funcs.length u.funs x=wi x.n 0 16):=zzH (by unfold zl;rw [hop];rfl);have HOP:=zzH hop;clear hop;go_in;go_upto_region 1 with fail;obtain⟨hU,hX,hBW⟩:=zbC w u lo fo go co lc fc gc cc x so co' go' sc cc' gc';generalize hWW:(w.alloc (.cells (zzu u lo lc fo fc go gc co cc) 27)).alloc (.cells (zzi x so sc co' cc' go' gc') 36)=W at *;have c0:=hX.c0;have c3:=hX.c3;have c5:=hX.c5;have b3:=hU.c3;have b4:=hU.c4;have hlu:=hU.lt;have hlx:=hX.lt;have HBW:=zzH hBW;clear hU hX hBW hWW;rw [HOP.out]at c0;go_wp2_with (go_at_call 122;refine(zK _ _ _ _).mono ?_;rintro e w1 ⟨rfl,rfl⟩);go_ret;exact⟨zn E.out.symm,HBW.out⟩
theorem znA (u:RUnit) (lo fo go co:zzA) (lc fc gc cc:Nat) (x:RIns) (so co' go':zzA) (sc cc' gc':Nat) (w:World) (hl:u.funcs.length<=9223372036854775807) (hl2:u.funs.length<=9223372036854775807) (hf:SlAt w 3 zbA go u.funs) (r1:I64 x.n) (r2:x.src.length<=9223372036854775807) (hop:x.op=21):
  Calls Tryz.prog 83 #[.agg (zzu u lo lc fo fc go gc co cc),.agg (zzi x so sc co' cc' go' gc')] w fun e w'=>e= .returned (.bool (zl u.funcs.length u.funs x))/\Below w.heap.size w w':=by
 unfold zzi zzu;obtain⟨r1a,r1b⟩:=r1;have HF:=zzH hf;have hw1:=zzV u.funcs.length (by omega)
 have hw2:=zzV u.funs.length (by omega)
 clear hf;have E:Hid (zl u.funcs.length u.funs x=wi x.n 0 16):=zzH (by unfold zl;rw [hop];rfl);have HOP:=zzH hop;clear hop;go_in;go_upto_region 1 with fail;obtain⟨hU,hX,hBW⟩:=zbC w u lo fo go co lc fc gc cc x so co' go' sc cc' gc';generalize hWW:(w.alloc (.cells (zzu u lo lc fo fc go gc co cc) 27)).alloc (.cells (zzi x so sc co' cc' go' gc') 36)=W at *;have c0:=hX.c0;have c3:=hX.c3;have c5:=hX.c5;have b3:=hU.c3;have b4:=hU.c4;have hlu:=hU.lt;have hlx:=hX.lt;have HBW:=zzH hBW;clear hU hX hBW hWW;rw [HOP.out]at c0;go_wp2_with (go_at_call 122;refine(zK _ _ _ _).mono ?_;rintro e w1 ⟨rfl,rfl⟩);go_ret;exact⟨zn E.out.symm,HBW.out⟩
theorem zmA (u:RUnit) (lo fo go co:zzA) (lc fc gc cc:Nat) (x:RIns) (so co' go':zzA) (sc cc' gc':Nat) (w:World) (hl:u.funcs.length<=9223372036854775807) (hl2:u.funs.length<=9223372036854775807) (hf:SlAt w 3 zbA go u.funs) (r1:I64 x.n) (r2:x.src.length<=9223372036854775807) (hop:x.op=24):
  Calls Tryz.prog 83 #[.agg (zzu u lo lc fo fc go gc co cc),.agg (zzi x so sc co' cc' go' gc')] w fun e w'=>e= .returned (.bool (zl u.funcs.length u.funs x))/\Below w.heap.size w w':=by
 unfold zzi zzu;obtain⟨r1a,r1b⟩:=r1;have HF:=zzH hf;have hw1:=zzV u.funcs.length (by omega)
 have hw2:=zzV u.funs.length (by omega)
 clear hf;have E:Hid (zl u.funcs.length u.funs x=wi x.n 1 8192):=zzH (by unfold zl;rw [hop];rfl);have HOP:=zzH hop;clear hop;go_in;go_upto_region 1 with fail;obtain⟨hU,hX,hBW⟩:=zbC w u lo fo go co lc fc gc cc x so co' go' sc cc' gc';generalize hWW:(w.alloc (.cells (zzu u lo lc fo fc go gc co cc) 27)).alloc (.cells (zzi x so sc co' cc' go' gc') 36)=W at *;have c0:=hX.c0;have c3:=hX.c3;have c5:=hX.c5;have b3:=hU.c3;have b4:=hU.c4;have hlu:=hU.lt;have hlx:=hX.lt;have HBW:=zzH hBW;clear hU hX hBW hWW;rw [HOP.out]at c0;go_wp2_with (go_at_call 122;refine(zK _ _ _ _).mono ?_;rintro e w1 ⟨rfl,rfl⟩);go_ret;exact⟨zn E.out.symm,HBW.out⟩
theorem zmB (u:RUnit) (lo fo go co:zzA) (lc fc gc cc:Nat) (x:RIns) (so co' go':zzA) (sc cc' gc':Nat) (w:World) (hl:u.funcs.length<=9223372036854775807) (hl2:u.funs.length<=9223372036854775807) (hf:SlAt w 3 zbA go u.funs) (r1:I64 x.n) (r2:x.src.length<=9223372036854775807) (hop:x.op=31):
  Calls Tryz.prog 83 #[.agg (zzu u lo lc fo fc go gc co cc),.agg (zzi x so sc co' cc' go' gc')] w fun e w'=>e= .returned (.bool (zl u.funcs.length u.funs x))/\Below w.heap.size w w':=by
 unfold zzi zzu;obtain⟨r1a,r1b⟩:=r1;have HF:=zzH hf;have hw1:=zzV u.funcs.length (by omega)
 have hw2:=zzV u.funs.length (by omega)
 clear hf;have E:Hid (zl u.funcs.length u.funs x=wi x.n 0 3):=zzH (by unfold zl;rw [hop];rfl);have HOP:=zzH hop;clear hop;go_in;go_upto_region 1 with fail;obtain⟨hU,hX,hBW⟩:=zbC w u lo fo go co lc fc gc cc x so co' go' sc cc' gc';generalize hWW:(w.alloc (.cells (zzu u lo lc fo fc go gc co cc) 27)).alloc (.cells (zzi x so sc co' cc' go' gc') 36)=W at *;have c0:=hX.c0;have c3:=hX.c3;have c5:=hX.c5;have b3:=hU.c3;have b4:=hU.c4;have hlu:=hU.lt;have hlx:=hX.lt;have HBW:=zzH hBW;clear hU hX hBW hWW;rw [HOP.out]at c0;go_wp2_with (go_at_call 122;refine(zK _ _ _ _).mono ?_;rintro e w1 ⟨rfl,rfl⟩);go_ret;exact⟨zn E.out.symm,HBW.out⟩
theorem znJ (u:RUnit) (lo fo go co:zzA) (lc fc gc cc:Nat) (x:RIns) (so co' go':zzA) (sc cc' gc':Nat) (w:World) (hl:u.funcs.length<=9223372036854775807) (hl2:u.funs.length<=9223372036854775807) (hf:SlAt w 3 zbA go u.funs) (r1:I64 x.n) (r2:x.src.length<=9223372036854775807) (hop:x.op=16):
  Calls Tryz.prog 83 #[.agg (zzu u lo lc fo fc go gc co cc),.agg (zzi x so sc co' cc' go' gc')] w fun e w'=>e= .returned (.bool (zl u.funcs.length u.funs x))/\Below w.heap.size w w':=by
 unfold zzi zzu;obtain⟨r1a,r1b⟩:=r1;have HF:=zzH hf;have hw1:=zzV u.funcs.length (by omega)
 have hw2:=zzV u.funs.length (by omega)
 clear hf;have E:Hid (zl u.funcs.length u.funs x=wi x.n 0 ((u.funcs.length:Int)-1)):=zzH (by unfold zl;rw [hop];rfl);have HOP:=zzH hop;clear hop;go_in;go_upto_region 1 with fail;obtain⟨hU,hX,hBW⟩:=zbC w u lo fo go co lc fc gc cc x so co' go' sc cc' gc';generalize hWW:(w.alloc (.cells (zzu u lo lc fo fc go gc co cc) 27)).alloc (.cells (zzi x so sc co' cc' go' gc') 36)=W at *;have c0:=hX.c0;have c3:=hX.c3;have c5:=hX.c5;have b3:=hU.c3;have b4:=hU.c4;have hlu:=hU.lt;have hlx:=hX.lt;have HBW:=zzH hBW;clear hU hX hBW hWW;rw [HOP.out]at c0;go_wp2_with (go_at_call 122;refine(zK _ _ _ _).mono ?_;rintro e w1 ⟨rfl,rfl⟩);go_ret;exact⟨zn E.out.symm,HBW.out⟩
theorem zmY (u:RUnit) (lo fo go co:zzA) (lc fc gc cc:Nat) (x:RIns) (so co' go':zzA) (sc cc' gc':Nat) (w:World) (hl:u.funcs.length<=9223372036854775807) (hl2:u.funs.length<=9223372036854775807) (hf:SlAt w 3 zbA go u.funs) (r1:I64 x.n) (r2:x.src.length<=9223372036854775807) (hop:x.op=17):
  Calls Tryz.prog 83 #[.agg (zzu u lo lc fo fc go gc co cc),.agg (zzi x so sc co' cc' go' gc')] w fun e w'=>e= .returned (.bool (zl u.funcs.length u.funs x))/\Below w.heap.size w w':=by
 unfold zzi zzu;obtain⟨r1a,r1b⟩:=r1;have HF:=zzH hf;have hw1:=zzV u.funcs.length (by omega)
 have hw2:=zzV u.funs.length (by omega)
 clear hf;have E:Hid (zl u.funcs.length u.funs x=wi x.n 0 ((u.funcs.length:Int)-1)):=zzH (by unfold zl;rw [hop];rfl);have HOP:=zzH hop;clear hop;go_in;go_upto_region 1 with fail;obtain⟨hU,hX,hBW⟩:=zbC w u lo fo go co lc fc gc cc x so co' go' sc cc' gc';generalize hWW:(w.alloc (.cells (zzu u lo lc fo fc go gc co cc) 27)).alloc (.cells (zzi x so sc co' cc' go' gc') 36)=W at *;have c0:=hX.c0;have c3:=hX.c3;have c5:=hX.c5;have b3:=hU.c3;have b4:=hU.c4;have hlu:=hU.lt;have hlx:=hX.lt;have HBW:=zzH hBW;clear hU hX hBW hWW;rw [HOP.out]at c0;go_wp2_with (go_at_call 122;refine(zK _ _ _ _).mono ?_;rintro e w1 ⟨rfl,rfl⟩);go_ret;exact⟨zn E.out.symm,HBW.out⟩
theorem znl (u:RUnit) (lo fo go co:zzA) (lc fc gc cc:Nat) (x:RIns) (so co' go':zzA) (sc cc' gc':Nat) (w:World) (hl:u.funcs.length<=9223372036854775807) (hl2:u.funs.length<=9223372036854775807) (hf:SlAt w 3 zbA go u.funs) (r1:I64 x.n) (r2:x.src.length<=9223372036854775807) (hop:x.op=32):
  Calls Tryz.prog 83 #[.agg (zzu u lo lc fo fc go gc co cc),.agg (zzi x so sc co' cc' go' gc')] w fun e w'=>e= .returned (.bool (zl u.funcs.length u.funs x))/\Below w.heap.size w w':=by
 unfold zzi zzu;obtain⟨r1a,r1b⟩:=r1;have HF:=zzH hf;have hw1:=zzV u.funcs.length (by omega)
 have hw2:=zzV u.funs.length (by omega)
 clear hf;have E:Hid (zl u.funcs.length u.funs x=(decide (x.n=1)||decide (x.n=8))):=zzH (by unfold zl;rw [hop];rfl);have HOP:=zzH hop;clear hop;by_cases n1:x.n=1
 ·exact zz180
 ·exact zz179
theorem zmN (u:RUnit) (lo fo go co:zzA) (lc fc gc cc:Nat) (x:RIns) (so co' go':zzA) (sc cc' gc':Nat) (w:World) (hl:u.funcs.length<=9223372036854775807) (hl2:u.funs.length<=9223372036854775807) (hf:SlAt w 3 zbA go u.funs) (r1:I64 x.n) (r2:x.src.length<=9223372036854775807) (hop:x.op=33):
  Calls Tryz.prog 83 #[.agg (zzu u lo lc fo fc go gc co cc),.agg (zzi x so sc co' cc' go' gc')] w fun e w'=>e= .returned (.bool (zl u.funcs.length u.funs x))/\Below w.heap.size w w':=by
 unfold zzi zzu;obtain⟨r1a,r1b⟩:=r1;have HF:=zzH hf;have hw1:=zzV u.funcs.length (by omega)
 have hw2:=zzV u.funs.length (by omega)
 clear hf;have E:Hid (zl u.funcs.length u.funs x=(decide (x.n=1)||decide (x.n=8))):=zzH (by unfold zl;rw [hop];rfl);have HOP:=zzH hop;clear hop;by_cases n1:x.n=1
 ·exact zz180
 ·exact zz179
theorem zkZ (u:RUnit) (lo fo go co:zzA) (lc fc gc cc:Nat) (x:RIns) (so co' go':zzA) (sc cc' gc':Nat) (w:World) (hl:u.funcs.length<=9223372036854775807) (hl2:u.funs.length<=9223372036854775807) (hf:SlAt w 3 zbA go u.funs) (r1:I64 x.n) (r2:x.src.length<=9223372036854775807) (h5: ¬x.op=5) (h9: ¬x.op=9) (h15: ¬x.op=15) (h18: ¬x.op=18) (h19: ¬x.op=19) (h20: ¬x.op=20) (h21: ¬x.op=21) (h24: ¬x.op=24) (h31: ¬x.op=31) (h16: ¬x.op=16) (h17: ¬x.op=17) (h32: ¬x.op=32) (h33: ¬x.op=33) (h4: ¬x.op=4):
  Calls Tryz.prog 83 #[.agg (zzu u lo lc fo fc go gc co cc),.agg (zzi x so sc co' cc' go' gc')] w fun e w'=>e= .returned (.bool (zl u.funcs.length u.funs x))/\Below w.heap.size w w':=by
 unfold zzi zzu;obtain⟨r1a,r1b⟩:=r1;have HF:=zzH hf;have hw1:=zzV u.funcs.length (by omega)
 have hw2:=zzV u.funs.length (by omega)
 clear hf;have E:Hid (zl u.funcs.length u.funs x=true):=zzH (by unfold zl;rw [if_neg h4,if_neg h5,if_neg h9,if_neg (by omega),if_neg (by omega),if_neg h24,if_neg h31,if_neg (by omega)]);have t5:(x.op==5)=false:=zzB.2 h5;have t9:(x.op==9)=false:=zzB.2 h9;have t15:(x.op==15)=false:=zzB.2 h15;have t18:(x.op==18)=false:=zzB.2 h18;have t19:(x.op==19)=false:=zzB.2 h19;have t20:(x.op==20)=false:=zzB.2 h20;have t21:(x.op==21)=false:=zzB.2 h21;have t24:(x.op==24)=false:=zzB.2 h24;have t31:(x.op==31)=false:=zzB.2 h31;have t16:(x.op==16)=false:=zzB.2 h16;have t17:(x.op==17)=false:=zzB.2 h17;have t32:(x.op==32)=false:=zzB.2 h32;have t33:(x.op==33)=false:=zzB.2 h33;have t4:(x.op==4)=false:=zzB.2 h4;clear h5 h9 h15 h18 h19 h20 h21 h24 h31 h16 h17 h32 h33 h4;go_in;go_upto_region 1 with fail;obtain⟨hU,hX,hBW⟩:=zbC w u lo fo go co lc fc gc cc x so co' go' sc cc' gc';generalize hWW:(w.alloc (.cells (zzu u lo lc fo fc go gc co cc) 27)).alloc (.cells (zzi x so sc co' cc' go' gc') 36)=W at *;have c0:=hX.c0;have c3:=hX.c3;have c5:=hX.c5;have b3:=hU.c3;have b4:=hU.c4;have hlu:=hU.lt;have hlx:=hX.lt;have HBW:=zzH hBW;clear hU hX hBW hWW;go_wp2;go_ret;exact⟨zn E.out.symm,HBW.out⟩
theorem zpf (u:RUnit) (lo fo go co:zzA) (lc fc gc cc:Nat) (x:RIns) (so co' go':zzA) (sc cc' gc':Nat) (w:World) (hl:u.funcs.length<=9223372036854775807) (hl2:u.funs.length<=9223372036854775807) (hf:SlAt w 3 zbA go u.funs) (r1:I64 x.n) (r2:x.src.length<=9223372036854775807) (hop:x.op=4):
  Calls Tryz.prog 83 #[.agg (zzu u lo lc fo fc go gc co cc),.agg (zzi x so sc co' cc' go' gc')] w fun e w'=>e= .returned (.bool (zl u.funcs.length u.funs x))/\Below w.heap.size w w':=by
 unfold zzi zzu;obtain⟨r1a,r1b⟩:=r1;have HF:=zzH hf;have hw1:=zzV u.funcs.length (by omega)
 have hw2:=zzV u.funs.length (by omega)
 clear hf
 have E:Hid (zl u.funcs.length u.funs x=(wi x.n 0 ((u.funs.length:Int)-1)&&(match u.funs[x.n.toNat]? with
   |some f=>decide ((x.src.length:Int)=f.free)
   |none=>false))):=zzH (by unfold zl;rw [hop];rfl)
 have HOP:=zzH hop;clear hop
 cases hw:wi x.n 0 ((u.funs.length:Int)-1)with
 |false=>
  have E2:Hid (zl u.funcs.length u.funs x=false):=zzH (by rw [E.out,hw];rfl)
  have hwr: ∀wx,Calls Tryz.prog 122 #[.int .i64 x.n,.int .i64 0,.int .i64 ((u.funs.length:Int)-1)] wx fun e w'=>e= .returned (.bool false)/\w'=wx:=fun wx=>by
   have:=zK x.n 0 ((u.funs.length:Int)-1) wx;rw [hw]at this;exact zz57
  clear hw E;go_in;go_upto_region 1 with fail;obtain⟨hU,hX,hBW⟩:=zbC w u lo fo go co lc fc gc cc x so co' go' sc cc' gc';generalize hWW:(w.alloc (.cells (zzu u lo lc fo fc go gc co cc) 27)).alloc (.cells (zzi x so sc co' cc' go' gc') 36)=W at *;have c0:=hX.c0;have c3:=hX.c3;have c5:=hX.c5;have b3:=hU.c3;have b4:=hU.c4;have hlu:=hU.lt;have hlx:=hX.lt;have HBW:=zzH hBW;clear hU hX hBW hWW;rw [HOP.out]at c0;go_wp2_with fail;go_quiet ((go_at_call 122;exact zze (hwr _)));go_wp2;go_ret;exact⟨zn E2.out.symm,zP HBW.out _⟩
 |true=>
  have hr:0<=x.n/\x.n<=(u.funs.length:Int)-1:=by
   unfold wi at hw;rw [zzq6,zzq7,zzq7]at hw;exact hw
  obtain⟨m,hm⟩:=zzJ hr.1;have hml:m<u.funs.length:=by omega
  have E2:Hid (zl u.funcs.length u.funs x=decide ((x.src.length:Int)=u.funs[m].free)):=zzH (by
   rw [E.out,hw,hm];have:u.funs[(((m:Nat):Int)).toNat]?=some u.funs[m]:=by rw [zzq16];exact zzq11 hml
   rw [this];rfl)
  have hwr: ∀wx,Calls Tryz.prog 122 #[.int .i64 (m:Int),.int .i64 0,.int .i64 ((u.funs.length:Int)-1)] wx fun e w'=>e= .returned (.bool true)/\w'=wx:=fun wx=>by
   have:=zK (m:Int) 0 ((u.funs.length:Int)-1) wx;rw [<-hm,hw]at this;rw [<-hm];exact zz57
  have HM:=zzH hm;clear hw hr E r1a r1b hm;by_cases hz:(x.src.length:Int)=u.funs[m].free
  ·have E3:Hid (zl u.funcs.length u.funs x=true):=zzH (by rw [E2.out,decide_eq_true hz])
   have t:((x.src.length:Int)==u.funs[m].free)=true:=by rw [hz];exact beq_self_eq_true _
   exact zz181
  ·have E3:Hid (zl u.funcs.length u.funs x=false):=zzH (by rw [E2.out,decide_eq_false hz])
   have t:((x.src.length:Int)==u.funs[m].free)=false:=zzB.2 hz;exact zz181
theorem zlz (u:RUnit) (lo fo go co:zzA) (lc fc gc cc:Nat) (x:RIns) (so co' go':zzA) (sc cc' gc':Nat) (w:World) (hl:u.funcs.length<=9223372036854775807) (hl2:u.funs.length<=9223372036854775807) (hf:SlAt w 3 zbA go u.funs) (r1:I64 x.n) (r2:x.src.length<=9223372036854775807):
  Calls Tryz.prog 83 #[.agg (zzu u lo lc fo fc go gc co cc),.agg (zzi x so sc co' cc' go' gc')] w fun e w'=>e= .returned (.bool (zl u.funcs.length u.funs x))/\Below w.heap.size w w':=by
 unfold zzi zzu;by_cases h5:x.op=5
 ·exact zn2 u lo fo go co lc fc gc cc x so co' go' sc cc' gc' w hl hl2 hf r1 r2 h5
 by_cases h9:x.op=9
 ·exact zoo u lo fo go co lc fc gc cc x so co' go' sc cc' gc' w hl hl2 hf r1 r2 h9
 by_cases h15:x.op=15
 ·exact zmX u lo fo go co lc fc gc cc x so co' go' sc cc' gc' w hl hl2 hf r1 r2 h15
 by_cases h18:x.op=18
 ·exact znz u lo fo go co lc fc gc cc x so co' go' sc cc' gc' w hl hl2 hf r1 r2 h18
 by_cases h19:x.op=19
 ·exact zmI u lo fo go co lc fc gc cc x so co' go' sc cc' gc' w hl hl2 hf r1 r2 h19
 by_cases h20:x.op=20
 ·exact znH u lo fo go co lc fc gc cc x so co' go' sc cc' gc' w hl hl2 hf r1 r2 h20
 by_cases h21:x.op=21
 ·exact znA u lo fo go co lc fc gc cc x so co' go' sc cc' gc' w hl hl2 hf r1 r2 h21
 by_cases h24:x.op=24
 ·exact zmA u lo fo go co lc fc gc cc x so co' go' sc cc' gc' w hl hl2 hf r1 r2 h24
 by_cases h31:x.op=31
 ·exact zmB u lo fo go co lc fc gc cc x so co' go' sc cc' gc' w hl hl2 hf r1 r2 h31
 by_cases h16:x.op=16
 ·exact znJ u lo fo go co lc fc gc cc x so co' go' sc cc' gc' w hl hl2 hf r1 r2 h16
 by_cases h17:x.op=17
 ·exact zmY u lo fo go co lc fc gc cc x so co' go' sc cc' gc' w hl hl2 hf r1 r2 h17
 by_cases h32:x.op=32
 ·exact znl u lo fo go co lc fc gc cc x so co' go' sc cc' gc' w hl hl2 hf r1 r2 h32
 by_cases h33:x.op=33
 ·exact zmN u lo fo go co lc fc gc cc x so co' go' sc cc' gc' w hl hl2 hf r1 r2 h33
 by_cases h4:x.op=4
 ·exact zpf u lo fo go co lc fc gc cc x so co' go' sc cc' gc' w hl hl2 hf r1 r2 h4
 exact zkZ u lo fo go co lc fc gc cc x so co' go' sc cc' gc' w hl hl2 hf r1 r2 h5 h9 h15 h18 h19 h20 h21 h24 h31 h16 h17 h32 h33 h4
def zeE (code:List RIns) (i:Nat) (x:RIns) (g:Bool):Bool:=
 if x.op=39\/x.op=40 then wi x.to 0 ((code.length:Int)-1)&&(zhm code x.to==37)
 else x.cases.all (fun c=>wi c.to ((i:Int)+1) ((code.length:Int)-1))&&(!g||wi x.to ((i:Int)+1) ((code.length:Int)-1))
theorem zlE (code:List RIns) (i:Nat) (x:RIns) (h:Nat):zeE code i x (zm h 64)=zbT code i x h:=rfl
theorem zsw {n a b:Int} (h:wi n a b=true):a<=n/\n<=b:=by
 exact zz72
theorem zqa (w:World) (u:RUnit) (lo fo go co:zzA) (lc fc gc cc:Nat) (cs:Array Value):UBox ((w.alloc (.cells #[.string u.mdl,.int .i64 u.vsn,.slice lo u.lits.length lc,.slice fo u.funcs.length fc,.slice go u.funs.length gc,.slice co u.code.length cc] 27)).alloc (.cells cs 148)) w.heap.size u lo fo go co lc fc gc cc/\((w.alloc (.cells #[.string u.mdl,.int .i64 u.vsn,.slice lo u.lits.length lc,.slice fo u.funcs.length fc,.slice go u.funs.length gc,.slice co u.code.length cc] 27)).alloc (.cells cs 148)).heap[w.heap.size+1]?=some (.cells cs 148 (0,0))/\Below w.heap.size w ((w.alloc (.cells #[.string u.mdl,.int .i64 u.vsn,.slice lo u.lits.length lc,.slice fo u.funcs.length fc,.slice go u.funs.length gc,.slice co u.code.length cc] 27)).alloc (.cells cs 148)):=by
 have s:(w.alloc (.cells (zzu u lo lc fo fc go gc co cc) 27)).heap.size=w.heap.size+1:=by simp
 refine⟨⟨(Below.heap_alloc _ _ _ (by rw [s];omega)).trans (zzF _ _)⟩,?_,(zzE _ _).alloc (by rw [s];omega) _⟩;rw [<-s];exact zzF _ _
theorem zkx (u:RUnit) (lo fo go co:zzA) (lc fc gc cc:Nat) (i:Nat) (r:RRow) (w:World) (hcode:SlAt w 10 (InsR w) co u.code) (hcl:u.code.length<=9223372036854775807) (hi:i<u.code.length):
  Calls Tryz.prog 86 #[.agg (zzu u lo lc fo fc go gc co cc),.int .i64 i,.agg r.val] w fun e w'=>e= .returned (.bool (zeE u.code i u.code[i] r.g))/\Below w.heap.size w w':=by
 unfold zzu;obtain⟨a,b,c,d,e,f,g,h,l1,l2⟩:=r
 have HT:Hid (∀x g,zeE u.code i x g=if x.op=39\/x.op=40 then wi x.to 0 ((u.code.length:Int)-1)&&(zhm u.code x.to==37)
  else x.cases.all (fun c=>wi c.to ((i:Int)+1) ((u.code.length:Int)-1))&&(!g||wi x.to ((i:Int)+1) ((u.code.length:Int)-1))):=zzH (fun x g=>rfl)
 have HTX0:=zzH (HT.out u.code[i] g);have HCO:=zzH hcode;clear hcode HT;generalize zeE u.code i u.code[i] g=tv at *;have hw1:=zzV u.code.length (by omega)
 have hw2:IntKind.i64.wrap ((i:Int)+1)=(i:Int)+1:=by rw [zzq5];omega
 simp only [RRow.val];go_in;go_upto_region 1 with fail;obtain⟨hU,hR,hBW⟩:=zqa w u lo fo go co lc fc gc cc #[.bool a,.bool b,.bool c,.bool d,.bool e,.bool f,.bool g,.bool h,.int .i64 l1,.int .i64 l2];have HBW:=zzH hBW;clear hBW;generalize(w.alloc (.cells (zzu u lo lc fo fc go gc co cc) 27)).alloc (.cells #[.bool a,.bool b,.bool c,.bool d,.bool e,.bool f,.bool g,.bool h,.int .i64 l1,.int .i64 l2] 148)=W at *;obtain⟨bc,oc,so,co',go',sc,cc',gc',hco,hxb⟩:=zfd (HCO.out.mono HBW.out fun _ _ hh=>hh.below HBW.out) hi;subst hco;have k0:=hxb.c0;have k1:=hxb.c1;have k2:=hxb.c2;have k3:=hxb.c3;have k4:=hxb.c4;have k5:=hxb.c5;have k6:=hxb.c6;have k7:=hxb.c7;have k8:=hxb.c8;have k9:=hxb.c9;have hkl:=hxb.lt;have HCS:=zzH hxb.cases;have s2:=hxb.rto;have s3:=hxb.rcases;clear hxb;have b5:=hU.c5;have hlu:=hU.lt;have HU:=zzH hU;have HRB:=zzH hR;clear hU hR;have HTX:=HTX0;clear HTX0;generalize u.code[i]=x at *;obtain⟨op,⟨dk,dn⟩,src,jt,nn,lv,nm,cases,segs⟩:=x;simp only at k0 k1 k2 k3 k4 k5 k6 k7 k8 k9 s2 s3 HCS HTX;generalize src.length=sl at *;generalize segs.length=gl at *;obtain⟨s2a,s2b⟩:=s2;generalize hBz:w.heap.size=B at *;have HBZ:=zzH hBz;clear hBz;go_upto_region 2 with fail;have hLx:=zzF W (.cells #[.int .i64 op,.int .i64 dk,.int .i64 dn,.slice so sl sc,.int .i64 jt,.int .i64 nn,.int .i64 lv,.string nm,.slice co' cases.length cc',.slice go' gl gc'] 36);have hLb:=(zzR W.heap.size W).alloc (zzL _) (.cells #[.int .i64 op,.int .i64 dk,.int .i64 dn,.slice so sl sc,.int .i64 jt,.int .i64 nn,.int .i64 lv,.string nm,.slice co' cases.length cc',.slice go' gl gc'] 36);generalize hWxe:W.alloc (.cells #[.int .i64 op,.int .i64 dk,.int .i64 dn,.slice so sl sc,.int .i64 jt,.int .i64 nn,.int .i64 lv,.string nm,.slice co' cases.length cc',.slice go' gl gc'] 36)=Wx at *;have HLX:=zzH hLx;have HLB:=zzH hLb;clear hLx hLb hWxe k0 k1 k2 k3 k4 k5 k6 k7 k8 k9 b5 hlu hkl;generalize hLe:W.heap.size=LB at *;have HLE:=zzH hLe;clear hLe;have HFIN:Hid (∀wx,Below Wx.heap.size Wx wx->Below B w wx):=zzH (fun wx hh=>HBW.out.trans ((HLB.out.trans (hh.mono (by have:=HLB.out.size;have:=HLE.out;omega))).mono (by have:=HBW.out.size;have:=HBZ.out;have:=HLE.out;omega)));have hL2:=((zzR Wx.heap.size Wx).block LB (zc HLX.out)).trans HLX.out;have hLl:=zc hL2;have e0:Wx.cell? ⟨LB,0,none⟩=some (.int .i64 op):=by rw [zzq2 _ _ _ _ _ _ hL2];rfl
 have e4:Wx.cell? ⟨LB,4,none⟩=some (.int .i64 jt):=by rw [zzq2 _ _ _ _ _ _ hL2];rfl
 have e8:Wx.cell? ⟨LB,8,none⟩=some (.slice co' cases.length cc'):=by rw [zzq2 _ _ _ _ _ _ hL2];rfl
 have hWB:Below W.heap.size W Wx:=by rw [HLE.out];exact HLB.out.trans ((zzR Wx.heap.size Wx).mono (by have:=HLB.out.size;have:=HLE.out;omega))
 have b5:=(HU.out.below hWB).c5;have hlu:=(HU.out.below hWB).lt;have hR2:=(hWB.block _ (zc HRB.out)).trans HRB.out;have hlr:=zc hR2;have q6:Wx.cell? ⟨B+1,6,none⟩=some (.bool g):=by rw [zzq2 _ _ _ _ _ _ hR2];rfl
 clear hL2 hWB hR2;by_cases hop:op=39\/op=40
 ·rw [if_pos hop]at HTX
  have HOP:=zzH hop
  cases hv:wi jt 0 ((u.code.length:Int)-1)with
  |false=>
   have E:Hid (tv=false):=zzH (by rw [HTX.out,hv];rfl)
   have hwr: ∀wx,Calls Tryz.prog 122 #[.int .i64 jt,.int .i64 0,.int .i64 ((u.code.length:Int)-1)] wx fun e w'=>e= .returned (.bool false)/\w=w/\wx=w':=fun wx=>by
    have:=zK jt 0 ((u.code.length:Int)-1) wx;rw [hv]at this;exact this.mono fun _ _ ⟨a,b⟩=>⟨a,rfl,b⟩
   have HWR:=zzH hwr;clear hv hwr hop;exact zz193
  |true=>
   have hr:=zsw hv;obtain⟨m,rfl⟩:=zzJ hr.1;have hml:m<u.code.length:=by omega
   have hwr: ∀wx,Calls Tryz.prog 122 #[.int .i64 (m:Int),.int .i64 0,.int .i64 ((u.code.length:Int)-1)] wx fun e w'=>e= .returned (.bool true)/\w=w/\wx=w':=fun wx=>by
    have:=zK (m:Int) 0 ((u.code.length:Int)-1) wx;rw [hv]at this;exact this.mono fun _ _ ⟨a,b⟩=>⟨a,rfl,b⟩
   have HWR:=zzH hwr;obtain⟨bc',oc',_,_,_,_,_,_,hco2,hxb2⟩:=zfd (HCO.out.mono (by rw [HBZ.out];exact HFIN.out _ (zzR _ _)) fun _ _ hh=>hh.below (by rw [HBZ.out];exact HFIN.out _ (zzR _ _))) hml;obtain⟨rfl,rfl⟩:bc=bc'/\oc=oc':=by injection hco2 with e9;injection e9 with e1 e2;exact⟨e1,e2⟩
   have z0:=hxb2.c0;have hzl:=hxb2.lt;have hoa:zhm u.code (m:Int)=u.code[m].op:=by unfold zhm;rw [zzq16,zzq11 hml];rfl
   have HTX2:Hid (tv=(u.code[m].op==37)):=zzH (by rw [HTX.out,hv,hoa];rfl);clear hv hwr hop hr hco2 hxb2 hoa;generalize u.code[m].op=op2 at *
   cases hq:(op2==37)with
   |false=>
    have E:Hid (tv=false):=zzH (by rw [HTX2.out,hq]);exact zz193
   |true=>
    have E:Hid (tv=true):=zzH (by rw [HTX2.out,hq]);exact zz193
 ·rw [if_neg hop]at HTX
  have p1:(op==39)=false:=zzB.2 (fun h=>hop (.inl h));have p2:(op==40)=false:=zzB.2 (fun h=>hop (.inr h));clear hop;go_wp2_with fail;go_loopw [8] (fun kv wr=> ∃k:Nat,k<=cases.length/\kv= .int .i64 k/\Hid (∀j (hj:j<cases.length),j<k->wi cases[j].to ((i:Int)+1) ((u.code.length:Int)-1)=true)/\Hid (Below Wx.heap.size Wx wr)) (fun kv _=>cases.length-(intOf kv).toNat)
  case atStart=>exact⟨0,zzZ _,rfl,zzH (fun j _ hj=>absurd hj (zzC _)),zzH (zzR _ _)⟩
  case round=>
   obtain⟨k,hk,rfl,HK,HBk⟩:=hrel;rename World=>wr
   clear e0 e4 e8 q6 b5;have hL2:=(HBk.out.block LB (zc HLX.out)).trans HLX.out;have hLl:=zc hL2;have e0:wr.cell? ⟨LB,0,none⟩=some (.int .i64 op):=by rw [zzq2 _ _ _ _ _ _ hL2];rfl
   have e4:wr.cell? ⟨LB,4,none⟩=some (.int .i64 jt):=by rw [zzq2 _ _ _ _ _ _ hL2];rfl
   have e8:wr.cell? ⟨LB,8,none⟩=some (.slice co' cases.length cc'):=by rw [zzq2 _ _ _ _ _ _ hL2];rfl
   have hWB:Below W.heap.size W wr:=by rw [HLE.out];exact HLB.out.trans (HBk.out.mono (by have:=HLB.out.size;have:=HLE.out;omega))
   have b5:=(HU.out.below hWB).c5;have hlu:=(HU.out.below hWB).lt;have hR2:=(hWB.block _ (zc HRB.out)).trans HRB.out;have hlr:=zc hR2;have q6:wr.cell? ⟨B+1,6,none⟩=some (.bool g):=by rw [zzq2 _ _ _ _ _ _ hR2];rfl
   clear hL2 hWB hR2;by_cases hkl:k<cases.length
   ·obtain⟨b2,off,hao,hb2,q0,q1,i0,i1⟩:=(HCS.out.mono (by rw [HLE.out];exact HLB.out.trans (HBk.out.mono (by have:=HLB.out.size;have:=HLE.out;omega))) fun _ _ h=>h).case hkl
    subst hao
    have HE:Hid (wi cases[k].to ((i:Int)+1) ((u.code.length:Int)-1)=false->tv=false):=zzH (fun hf=>by
     have:cases.all (fun c=>wi c.to ((i:Int)+1) ((u.code.length:Int)-1))=false:=by
      rw [List.all_eq_false];exact⟨cases[k],zzM hkl,by rw [hf];decide⟩
     rw [HTX.out,this];rfl)
    have HN:Hid (wi cases[k].to ((i:Int)+1) ((u.code.length:Int)-1)=true-> ∀j (hj:j<cases.length),j<k+1->wi cases[j].to ((i:Int)+1) ((u.code.length:Int)-1)=true):=zzH (fun hne j hj hjk=>by
     rcases Nat.eq_or_lt_of_le (Nat.le_of_lt_succ hjk)with e9|e9
     ·subst e9;exact hne
     ·exact HK.out j hj e9)
    generalize cases[k]=ca at *;have hwr: ∀wx,Calls Tryz.prog 122 #[.int .i64 ca.to,.int .i64 ((i:Int)+1),.int .i64 ((u.code.length:Int)-1)] wx fun e w'=>e= .returned (.bool (wi ca.to ((i:Int)+1) ((u.code.length:Int)-1)))/\w'=wx:=fun wx=>(zK ca.to ((i:Int)+1) ((u.code.length:Int)-1) wx).mono fun _ _ ⟨a,b⟩=>⟨a,b.symm⟩
    cases hv:wi ca.to ((i:Int)+1) ((u.code.length:Int)-1)with
    |false=>
     have E:=zzH (HE.out hv);rw [hv]at hwr;clear hv HE HN;go_wp2_with fail;go_quiet ((go_at_call 122;exact zze (hwr _)));go_wp2;go_ret;exact⟨zn E.out.symm,by rw [HBZ.out];exact HFIN.out _ (zP HBk.out _)⟩
    |true=>
     have HN2:=zzH (HN.out hv);rw [hv]at hwr;clear hv HE HN;go_wp2_with fail;go_quiet ((go_at_call 122;exact zze (hwr _)));go_wp2_with fail;go_roundw
     case rel=>exact⟨k+1,by omega,by go_num,HN2,zzH (zP HBk.out _)⟩
     case measure=>simp [intOf];omega
   ·have HALL:Hid (cases.all (fun c=>wi c.to ((i:Int)+1) ((u.code.length:Int)-1))=true):=zzH (by
     rw [List.all_eq_true];intro ca ha;obtain⟨j,hj,rfl⟩:=List.getElem_of_mem ha;exact HK.out j hj (by omega))
    have HTX2:Hid (tv=(!g||wi jt ((i:Int)+1) ((u.code.length:Int)-1))):=zzH (by rw [HTX.out,HALL.out];rfl);clear HALL HTX
    cases g with
    |false=>
     have E:Hid (tv=true):=zzH (by rw [HTX2.out];rfl);exact zz192
    |true=>
     have E:Hid (tv=wi jt ((i:Int)+1) ((u.code.length:Int)-1)):=zzH (by rw [HTX2.out];rfl);go_wp2_with fail;refine(zK _ _ _ _).mono ?_;rintro e9 w1 ⟨rfl,rfl⟩;exact zz192
theorem zgO (w:World) (x:RIns) (so co' go':zzA) (sc cc' gc':Nat):XBox (w.alloc (.cells #[.int .i64 x.op,.int .i64 x.dst.kind,.int .i64 x.dst.n,.slice so x.src.length sc,.int .i64 x.to,.int .i64 x.n,.int .i64 x.live,.string x.name,.slice co' x.cases.length cc',.slice go' x.segs.length gc'] 36)) w.heap.size x so co' go' sc cc' gc':=zzF _ _
theorem zmm {l k : List UInt8} {b : Bool} (h : (l == k) = b) : (l != k) = !b := by rw [<- h]; rfl
theorem zn4 (x:RIns) (so co' go':zzA) (sc cc' gc':Nat) (w:World) (hs:x.name.size<=maxLen) (r2:x.src.length<=9223372036854775807) (r1:I64 x.n) (hop:x.op=13):
  Calls Tryz.prog 84 #[.agg (zzi x so sc co' cc' go' gc')] w fun e w'=>e= .returned (.bool (zbh x))/\Below w.heap.size w w':=by
 unfold zzi;have E0:Hid (zbh x=(((x.name.toList== [123,125])||((x.name.toList== [124])&&((x.src.length:Int)==2)))||((!(x.name.toList== [43,43])&&zN x.name x.src.length)||(zbu x.name x.src.length==1)))):=zzH (by unfold zbh;rw [if_pos hop]);have HOP:=zzH hop;clear hop;go_in;go_upto_region 1 with fail;have hX:=zgO w x so co' go' sc cc' gc';have hBX:Below w.heap.size w (w.alloc (.cells (zzi x so sc co' cc' go' gc') 36)):=zzE _ _;generalize w.alloc (.cells (zzi x so sc co' cc' go' gc') 36)=W at *;have hcl:=zeY x.name x.src.length W hs;rw [<-zdP]at hcl;have HX:=zzH hX;have HB:=zzH hBX;have c0:=hX.c0;have c3:=hX.c3;have c5:=hX.c5;have c7:=hX.c7;have hlx:=hX.lt;clear hX hBX;rw [HOP.out]at c0;generalize hBz:w.heap.size=B at *;have HBZ:=zzH hBz;clear hBz;go_wp2_with fail;refine hcl.mono ?_;rintro e w1 ⟨rfl,hb1⟩;have hX1:=HX.out.below hb1;have HB1:Hid (Below B w w1):=zzH (HB.out.trans (hb1.mono (by have:=HB.out.size;have:=HBZ.out;omega)));have hbb:=hb1.size;clear hb1 c0 c3 c5 c7 hcl;have c0:=hX1.c0;have c3:=hX1.c3;have c5:=hX1.c5;have c7:=hX1.c7;have hlx1:=hX1.lt;have HX1:=zzH hX1;clear hX1;rw [HOP.out]at c0;have hop2:=zgg x.name x.src.length w1
 cases q1:(zbu x.name x.src.length==1)with
 |true=>
  exact zz196
 |false=>
  simp only [q1]at E0
  cases ob:zN x.name x.src.length with
  |true=>
   simp only [ob]at E0
   cases t0:(x.name.toList== [43,43])with
   |true=>
    exact zz195
   |false=>
    simp only [t0]at E0;have t0':=zmm t0
    try simp only [zzX4]at E0
    go_wp2_with fail;refine hop2.mono ?_;rintro e w2 ⟨rfl,rfl⟩;go_wp2;go_ret;exact⟨zn E0.out.symm,by rw [HBZ.out];exact HB1.out⟩
  |false=>
   simp only [ob]at E0
   cases t0:(x.name.toList== [43,43])with
   |true=>
    exact zz195
   |false=>
    exact zz195
theorem zoH (x:RIns) (so co' go':zzA) (sc cc' gc':Nat) (w:World) (hs:x.name.size<=maxLen) (r2:x.src.length<=9223372036854775807) (r1:I64 x.n) (hop:x.op=14):
  Calls Tryz.prog 84 #[.agg (zzi x so sc co' cc' go' gc')] w fun e w'=>e= .returned (.bool (zbh x))/\Below w.heap.size w w':=by
 unfold zzi;have E0:Hid (zbh x=((zN x.name x.src.length||(zbu x.name x.src.length==1))||(zbu x.name x.src.length==2))):=zzH (by unfold zbh;rw [if_neg (by omega),if_pos hop]);have HOP:=zzH hop;clear hop;go_in;go_upto_region 1 with fail;have hX:=zgO w x so co' go' sc cc' gc';have hBX:Below w.heap.size w (w.alloc (.cells (zzi x so sc co' cc' go' gc') 36)):=zzE _ _;generalize w.alloc (.cells (zzi x so sc co' cc' go' gc') 36)=W at *;have hcl:=zeY x.name x.src.length W hs;rw [<-zdP]at hcl;have HX:=zzH hX;have HB:=zzH hBX;have c0:=hX.c0;have c3:=hX.c3;have c5:=hX.c5;have c7:=hX.c7;have hlx:=hX.lt;clear hX hBX;rw [HOP.out]at c0;generalize hBz:w.heap.size=B at *;have HBZ:=zzH hBz;clear hBz;go_wp2_with fail;refine hcl.mono ?_;rintro e w1 ⟨rfl,hb1⟩;have hX1:=HX.out.below hb1;have HB1:Hid (Below B w w1):=zzH (HB.out.trans (hb1.mono (by have:=HB.out.size;have:=HBZ.out;omega)));have hbb:=hb1.size;clear hb1 c0 c3 c5 c7 hcl;have c0:=hX1.c0;have c3:=hX1.c3;have c5:=hX1.c5;have c7:=hX1.c7;have hlx1:=hX1.lt;have HX1:=zzH hX1;clear hX1;rw [HOP.out]at c0;have hop2:=zgg x.name x.src.length w1
 cases q1:(zbu x.name x.src.length==1)with
 |true=>
  exact zz196
 |false=>
  simp only [q1]at E0
  cases q2:(zbu x.name x.src.length==2)with
  |true=>
   exact zz197
  |false=>
   exact zz197
theorem zp1 (x:RIns) (so co' go':zzA) (sc cc' gc':Nat) (w:World) (hs:x.name.size<=maxLen) (r2:x.src.length<=9223372036854775807) (r1:I64 x.n) (hop:x.op=15):
  Calls Tryz.prog 84 #[.agg (zzi x so sc co' cc' go' gc')] w fun e w'=>e= .returned (.bool (zbh x))/\Below w.heap.size w w':=by
 unfold zzi;have E0:Hid (zbh x=(((x.name.toList== [33])&&(x.n==2))||(zbu x.name x.n==3))):=zzH (by unfold zbh;rw [if_neg (by omega),if_neg (by omega),if_pos hop]);have HOP:=zzH hop;clear hop;go_in;go_upto_region 1 with fail;have hX:=zgO w x so co' go' sc cc' gc';have hBX:Below w.heap.size w (w.alloc (.cells (zzi x so sc co' cc' go' gc') 36)):=zzE _ _;generalize w.alloc (.cells (zzi x so sc co' cc' go' gc') 36)=W at *;have hcl:=zeY x.name x.src.length W hs;rw [<-zdP]at hcl;have HX:=zzH hX;have HB:=zzH hBX;have c0:=hX.c0;have c3:=hX.c3;have c5:=hX.c5;have c7:=hX.c7;have hlx:=hX.lt;clear hX hBX;rw [HOP.out]at c0;generalize hBz:w.heap.size=B at *;have HBZ:=zzH hBz;clear hBz;go_wp2_with fail;refine hcl.mono ?_;rintro e w1 ⟨rfl,hb1⟩;have hX1:=HX.out.below hb1;have HB1:Hid (Below B w w1):=zzH (HB.out.trans (hb1.mono (by have:=HB.out.size;have:=HBZ.out;omega)));have hbb:=hb1.size;clear hb1 c0 c3 c5 c7 hcl;have c0:=hX1.c0;have c3:=hX1.c3;have c5:=hX1.c5;have c7:=hX1.c7;have hlx1:=hX1.lt;have HX1:=zzH hX1;clear hX1;rw [HOP.out]at c0;have hop2:=zgg x.name x.src.length w1;have hc2:=zeY x.name x.n w1 hs;rw [<-zdP]at hc2
 cases q3:(zbu x.name x.n==3)with
 |true=>
  simp only [q3]at E0;exact zz199
 |false=>
  simp only [q3]at E0
  cases t1:(x.name.toList== [33])with
  |true=>
   simp only [t1]at E0
   cases q2:(x.n==2)with
   |true=>
    exact zz198
   |false=>
    exact zz198
  |false=>
   simp only [t1]at E0;exact zz199
theorem zlx (x:RIns) (so co' go':zzA) (sc cc' gc':Nat) (w:World) (hs:x.name.size<=maxLen) (r2:x.src.length<=9223372036854775807) (r1:I64 x.n) (h13: ¬x.op=13) (h14: ¬x.op=14) (h15: ¬x.op=15):
  Calls Tryz.prog 84 #[.agg (zzi x so sc co' cc' go' gc')] w fun e w'=>e= .returned (.bool (zbh x))/\Below w.heap.size w w':=by
 unfold zzi;have E0:Hid (zbh x=true):=zzH (by unfold zbh;rw [if_neg h13,if_neg h14,if_neg h15]);have t13:(x.op==13)=false:=zzB.2 h13;have t14:(x.op==14)=false:=zzB.2 h14;have t15:(x.op==15)=false:=zzB.2 h15;clear h13 h14 h15;go_in;go_upto_region 1 with fail;have hX:=zgO w x so co' go' sc cc' gc';have hBX:Below w.heap.size w (w.alloc (.cells (zzi x so sc co' cc' go' gc') 36)):=zzE _ _;generalize w.alloc (.cells (zzi x so sc co' cc' go' gc') 36)=W at *;have hcl:=zeY x.name x.src.length W hs;rw [<-zdP]at hcl;have HX:=zzH hX;have HB:=zzH hBX;have c0:=hX.c0;have c3:=hX.c3;have c5:=hX.c5;have c7:=hX.c7;have hlx:=hX.lt;clear hX hBX;generalize hBz:w.heap.size=B at *;have HBZ:=zzH hBz;clear hBz;go_wp2_with fail;refine hcl.mono ?_;rintro e w1 ⟨rfl,hb1⟩;have hX1:=HX.out.below hb1;have HB1:Hid (Below B w w1):=zzH (HB.out.trans (hb1.mono (by have:=HB.out.size;have:=HBZ.out;omega)));have hbb:=hb1.size;clear hb1 c0 c3 c5 c7 hcl;have c0:=hX1.c0;have c3:=hX1.c3;have c5:=hX1.c5;have c7:=hX1.c7;have hlx1:=hX1.lt;have HX1:=zzH hX1;clear hX1;have hop2:=zgg x.name x.src.length w1;go_wp2_with fail;refine hop2.mono ?_;rintro e w2 ⟨rfl,rfl⟩;go_wp2;go_ret;exact⟨zn E0.out.symm,by rw [HBZ.out];exact HB1.out⟩
theorem znj (x:RIns) (so co' go':zzA) (sc cc' gc':Nat) (w:World) (hs:x.name.size<=maxLen) (r2:x.src.length<=9223372036854775807) (r1:I64 x.n):
  Calls Tryz.prog 84 #[.agg (zzi x so sc co' cc' go' gc')] w fun e w'=>e= .returned (.bool (zbh x))/\Below w.heap.size w w':=by
 unfold zzi;by_cases h13:x.op=13
 ·exact zn4 x so co' go' sc cc' gc' w hs r2 r1 h13
 by_cases h14:x.op=14
 ·exact zoH x so co' go' sc cc' gc' w hs r2 r1 h14
 by_cases h15:x.op=15
 ·exact zp1 x so co' go' sc cc' gc' w hs r2 r1 h15
 exact zlx x so co' go' sc cc' gc' w hs r2 r1 h13 h14 h15
end Go.Proofs.YtijekmeocadkeaaGreatDoor
