import Derived.Test.YtijekmeocadkeaaGreatDoorW01
namespace Go.Proofs.YtijekmeocadkeaaGreatDoor
open Go.RowKit
set_option linter.unusedVariables false
set_option linter.unusedSimpArgs false
set_option maxRecDepth 100000
set_option maxHeartbeats 0
structure UP (w:World) (u:RUnit) (lo fo go co:Option Addr):Prop where
 lits:SlAt w 9 (TmA w) lo u.lits
 funcs:SlAt w 4 zd0 fo u.funcs
 funs:SlAt w 3 zbA go u.funs
 code:SlAt w 10 (InsR w) co u.code
 mdlLen:u.mdl.size<=9223372036854775807
 vsn:I64 u.vsn
 litsLen:u.lits.length<=9223372036854775807
 funcsLen:u.funcs.length<=9223372036854775807
 funsLen:u.funs.length<=9223372036854775807
 codeLen:u.code.length<=9223372036854775807
theorem UP.below {w w':World} {u:RUnit} {lo fo go co:zzA} (h:UP w u lo fo go co) (hb:Below w.heap.size w w'):UP w' u lo fo go co:=
 ⟨h.lits.mono hb fun _ _ h=>h.below hb,h.funcs.mono hb fun _ _ h=>h,h.funs.mono hb fun _ _ h=>h,h.code.mono hb fun _ _ h=>h.below hb,h.mdlLen,h.vsn,h.litsLen,h.funcsLen,h.funsLen,h.codeLen⟩
structure UBox (w:World) (B:Nat) (u:RUnit) (lo fo go co:Option Addr) (lc fc gc cc:Nat):Prop where
 box:w.heap[B]?=some (.cells #[.string u.mdl,.int .i64 u.vsn,.slice lo u.lits.length lc,.slice fo u.funcs.length fc,.slice go u.funs.length gc,.slice co u.code.length cc] 27 (0,0))
section
variable {w:World} {B:Nat} {u:RUnit} {lo fo go co:Option Addr} {lc fc gc cc:Nat}
theorem UBox.lt (h:UBox w B u lo fo go co lc fc gc cc):B<w.heap.size:=zc h.box
theorem UBox.below {w':World} (h:UBox w B u lo fo go co lc fc gc cc) (hb:Below w.heap.size w w'):UBox w' B u lo fo go co lc fc gc cc:=⟨(hb.block B h.lt).trans h.box⟩
theorem UBox.c0 (h:UBox w B u lo fo go co lc fc gc cc):w.cell? ⟨B,0,none⟩=some (.string u.mdl):=by rw [zzq2 _ _ _ _ _ _ h.box];rfl
theorem UBox.c1 (h:UBox w B u lo fo go co lc fc gc cc):w.cell? ⟨B,1,none⟩=some (.int .i64 u.vsn):=by rw [zzq2 _ _ _ _ _ _ h.box];rfl
theorem UBox.c2 (h:UBox w B u lo fo go co lc fc gc cc):w.cell? ⟨B,2,none⟩=some (.slice lo u.lits.length lc):=by rw [zzq2 _ _ _ _ _ _ h.box];rfl
theorem UBox.c3 (h:UBox w B u lo fo go co lc fc gc cc):w.cell? ⟨B,3,none⟩=some (.slice fo u.funcs.length fc):=by rw [zzq2 _ _ _ _ _ _ h.box];rfl
theorem UBox.c4 (h:UBox w B u lo fo go co lc fc gc cc):w.cell? ⟨B,4,none⟩=some (.slice go u.funs.length gc):=by rw [zzq2 _ _ _ _ _ _ h.box];rfl
theorem UBox.c5 (h:UBox w B u lo fo go co lc fc gc cc):w.cell? ⟨B,5,none⟩=some (.slice co u.code.length cc):=by rw [zzq2 _ _ _ _ _ _ h.box];rfl
end
theorem zcJ (w:World) (u:RUnit) (lo fo go co:zzA) (lc fc gc cc:Nat):UBox (w.alloc (.cells #[.string u.mdl,.int .i64 u.vsn,.slice lo u.lits.length lc,.slice fo u.funcs.length fc,.slice go u.funs.length gc,.slice co u.code.length cc] 27)) w.heap.size u lo fo go co lc fc gc cc:=⟨zzF _ _⟩
theorem zO (n a b:Int) (w:World):
  Calls Tryz.prog 110 #[.int .i64 n,.int .i64 a,.int .i64 b] w fun e w'=>e= .returned (.bool (wi n a b))/\w=w':=by
 by_cases h1:a<=n
 ·exact zz27
 ·exact zz28
def zbi (nl:Nat) (a:RArg):Bool:=if a.kind=1 then wi a.n 0 255 else if a.kind=2 then wi a.n 0 8191 else if a.kind=3 then wi a.n 0 ((nl:Int)-1)else false
theorem zfo (B:Nat) (u:RUnit) (lo fo go co:zzA) (lc fc gc cc:Nat) (a:RArg) (w:World) (hb:UBox w B u lo fo go co lc fc gc cc) (hl:u.lits.length<=9223372036854775807) (ha:I64 a.kind/\I64 a.n):
  Calls Tryz.prog 112 #[.pointer (some ⟨B,0,none⟩),.agg #[.int .i64 a.kind,.int .i64 a.n]] w fun e w'=>e= .returned (.bool (zbi u.lits.length a))/\Below w.heap.size w w':=by
 have hbe:Below w.heap.size w (w.alloc (.cells #[.int .i64 a.kind,.int .i64 a.n] 31)):=zzE _ _;have b2:=(hb.below hbe).c2;have hlt:=hb.lt;obtain⟨⟨x1,x2⟩,⟨y1,y2⟩⟩:=ha;obtain⟨ak,an⟩:=a;simp only at x1 x2 y1 y2;by_cases k1:ak=1
 ·subst k1
  have E:Hid (zbi u.lits.length ⟨1,an⟩=wi an 0 255):=zzH rfl;exact zz46
 ·by_cases k2:ak=2
  ·subst k2
   have E:Hid (zbi u.lits.length ⟨2,an⟩=wi an 0 8191):=zzH rfl;clear k1;exact zz46
  ·by_cases k3:ak=3
   ·subst k3
    have E:Hid (zbi u.lits.length ⟨3,an⟩=wi an 0 ((u.lits.length:Int)-1)):=zzH rfl;clear k1 k2;generalize u.lits.length=nl at *;have hw1:IntKind.i64.wrap ((nl:Int)-1)=(nl:Int)-1:=by rw [zzq5];omega
    go_in;go_wp2_with fail;go_quiet ((go_at_call 110;exact zze ((zO _ _ _ _).mono fun _ _ ⟨a,b⟩=>⟨a,b.symm⟩)));go_wp2;go_ret;exact⟨zn E.out.symm,zP hbe _⟩
   ·have E:Hid (zbi u.lits.length ⟨ak,an⟩=false):=zzH (by unfold zbi;rw [if_neg k1,if_neg k2,if_neg k3])
    have t1:(ak==1)=false:=zzB.2 k1;have t2:(ak==2)=false:=zzB.2 k2;have t3:(ak==3)=false:=zzB.2 k3;clear k1 k2 k3;go_in;exact zz47
def rowT:List (Int × Int × Int):=[(0,0,0),(3,1,1),(131,0,255),(131,2,2),(135,0,200),(7,1,1),(3,1,1),(3,1,1),(64,0,0),(70,1,1),(66,1,1),(66,2,2),(82,1,1),(203,0,255),(139,0,3),(12,0,0),(4,0,0),(4,0,0),(6,2,2),(6,2,2),(6,1,1),(6,1,1),(2,2,3),(2,2,3),(4,0,0),(0,0,0),(0,0,0),(2,2,2),(64,0,0),(0,0,0),(66,1,1),(199,1,1),(199,1,1),(197,0,0),(64,0,0),(161,0,0),(2,0,1),(64,0,0),(0,0,0),(64,0,0),(64,0,0)]
def RowsAt (w:World):Prop:=0<w.heap.size/\ ∀k (h:k<41),w.cell? ⟨0,k*3,none⟩=some (.int .i64 (rowT[k]'h).1)/\w.cell? ⟨0,k*3+1,none⟩=some (.int .i64 (rowT[k]'h).2.1)/\w.cell? ⟨0,k*3+2,none⟩=some (.int .i64 (rowT[k]'h).2.2)
theorem RowsAt.below {w w':World} (h:RowsAt w) (hb:Below w.heap.size w w'):RowsAt w':=
 ⟨zzW h.1 hb.size,fun k hk=>by
  obtain⟨a,b,c⟩:=h.2 k hk;exact⟨(hb.cell (p:=⟨0,k*3,none⟩) h.1).trans a,(hb.cell (p:=⟨0,k*3+1,none⟩) h.1).trans b,(hb.cell (p:=⟨0,k*3+2,none⟩) h.1).trans c⟩⟩
theorem zo4 (k:Nat) (h1:1<=k) (h2:k<41) (w:World) (hr:RowsAt w):
  Calls Tryz.prog 69 #[.int .i64 k] w fun e w'=>e= .returned (.tuple #[.agg #[.int .i64 (rowT[k]'h2).1,.int .i64 (rowT[k]'h2).2.1,.int .i64 (rowT[k]'h2).2.2],.bool true])/\Below w.heap.size w w':=by
 obtain⟨c0,c1,c2⟩:=hr.2 k h2;have hlt:=hr.1;generalize rowT[k]'h2=x at *;obtain⟨x0,x1,x2⟩:=x;simp only at c0 c1 c2;go_in;go_wp2;refine zzj (zT rfl _ _ _ w.heap.size _ _ _ _ rfl (zzF _ _) Tryz.underlying131 (by kernel_rfl)) rfl ?_;exact⟨rfl,zzE _ _⟩
theorem zkL (op:Int) (h: ¬(1<=op/\op<=40)) (w:World):
  Calls Tryz.prog 69 #[.int .i64 op] w fun e w'=>e= .returned (.tuple #[.agg #[.int .i64 0,.int .i64 0,.int .i64 0],.bool false])/\Below w.heap.size w w':=by
 by_cases h1:op<1
 ·exact zz48
 ·have h2:40<op:=by omega
  exact zz48
def zm (h f:Nat):Bool:=decide (h&&&f≠0)
theorem zhv (a b:Nat) (ha:a<9223372036854775808) (hb:b<9223372036854775808):bits .and .i64 (a:Int) (b:Int)=((a&&&b:Nat):Int):=by
 have hx:a&&&b<2^63:=Nat.and_lt_two_pow _ (by omega)
 have h1:(BitVec.ofInt 64 (a:Int)).toNat=a:=by
  exact zz2
 have h2:(BitVec.ofInt 64 (b:Int)).toNat=b:=by
  exact zz2
 show IntKind.i64.wrap ((BitVec.ofInt 64 (a:Int)&&&BitVec.ofInt 64 (b:Int)).toNat:Int)=_;rw [BitVec.toNat_and,h1,h2,zzq5];omega
theorem zfc (h f:Nat) (z:Int) (hz:z=f) (C:Nat) (w:World) (hc:w.cell? ⟨C,0,none⟩=some (.int .i64 h)) (h1:h<1000) (h2:f<1000):
  Calls Tryz.prog 111 #[.int .i64 z,.pointer (some ⟨C,0,none⟩)] w fun e w'=>e= .returned (.bool (zm h f))/\w=w':=by
 subst hz;have ha:=zhv h f (by omega) (by omega)
 have E:Hid ((((h&&&f:Nat):Int)!=0)=zm h f):=zzH (by
  unfold zm;by_cases c:h&&&f=0
  ·rw [c];rfl
  ·rw [decide_eq_true c];rw [bne_iff_ne];omega)
 generalize h&&&f=x at *;go_in;go_wp2;go_ret;exact⟨zn E.out,rfl⟩
structure IBox (w:World) (b o:Nat) (x:RIns) (so co go:Option Addr) (sc cc gc:Nat):Prop where
 lt:b<w.heap.size
 c0:w.cell? ⟨b,o,none⟩=some (.int .i64 x.op)
 c1:w.cell? ⟨b,o+1,none⟩=some (.int .i64 x.dst.kind)
 c2:w.cell? ⟨b,o+2,none⟩=some (.int .i64 x.dst.n)
 c3:w.cell? ⟨b,o+3,none⟩=some (.slice so x.src.length sc)
 c4:w.cell? ⟨b,o+4,none⟩=some (.int .i64 x.to)
 c5:w.cell? ⟨b,o+5,none⟩=some (.int .i64 x.n)
 c6:w.cell? ⟨b,o+6,none⟩=some (.int .i64 x.live)
 c7:w.cell? ⟨b,o+7,none⟩=some (.string x.name)
 c8:w.cell? ⟨b,o+8,none⟩=some (.slice co x.cases.length cc)
 c9:w.cell? ⟨b,o+9,none⟩=some (.slice go x.segs.length gc)
 src:SlAt w 2 zdY so x.src
 cases:SlAt w 2 zdc co x.cases
 segs:SlAt w 6 zdZ go x.segs
 rop:I64 x.op
 rdk:I64 x.dst.kind
 rdn:I64 x.dst.n
 rsrc:x.src.length<=9223372036854775807
 rto:I64 x.to
 rn:I64 x.n
 rlive:I64 x.live
 rname:x.name.size<=9223372036854775807
 rcases:x.cases.length<=9223372036854775807
 rsegs:x.segs.length<=9223372036854775807
theorem IBox.below {w w':World} {b o:Nat} {x:RIns} {so co go:zzA} {sc cc gc:Nat} (h:IBox w b o x so co go sc cc gc) (hb:Below w.heap.size w w'):IBox w' b o x so co go sc cc gc:=
 ⟨zzW h.lt hb.size,(hb.cell (p:=⟨b,o,none⟩) h.lt).trans h.c0,(hb.cell (p:=⟨b,o+1,none⟩) h.lt).trans h.c1,(hb.cell (p:=⟨b,o+2,none⟩) h.lt).trans h.c2,(hb.cell (p:=⟨b,o+3,none⟩) h.lt).trans h.c3,(hb.cell (p:=⟨b,o+4,none⟩) h.lt).trans h.c4,
  (hb.cell (p:=⟨b,o+5,none⟩) h.lt).trans h.c5,(hb.cell (p:=⟨b,o+6,none⟩) h.lt).trans h.c6,(hb.cell (p:=⟨b,o+7,none⟩) h.lt).trans h.c7,(hb.cell (p:=⟨b,o+8,none⟩) h.lt).trans h.c8,(hb.cell (p:=⟨b,o+9,none⟩) h.lt).trans h.c9,
  h.src.mono hb fun _ _ h=>h,h.cases.mono hb fun _ _ h=>h,h.segs.mono hb fun _ _ h=>h,h.rop,h.rdk,h.rdn,h.rsrc,h.rto,h.rn,h.rlive,h.rname,h.rcases,h.rsegs⟩
theorem zfd {w:World} {ao:zzA} {l:List RIns} (h:SlAt w 10 (InsR w) ao l) {k:Nat} (hk:k<l.length): ∃b off so co go sc cc gc,ao=some ⟨b,off,none⟩/\IBox w b (off+k*10) l[k] so co go sc cc gc:=by
 obtain⟨b,off,so,sc,co,cc,go,gc,e,hb,c0,c1,c2,c3,c4,c5,c6,c7,c8,c9,s1,s2,s3,r1,r2,r3,r4,r5,r6,r7,r8,r9,r10⟩:=h.ins hk;exact⟨b,off,so,co,go,sc,cc,gc,e,hb,c0,c1,c2,c3,c4,c5,c6,c7,c8,c9,s1,s2,s3,r1,r2,r3,r4,r5,r6,r7,r8,r9,r10⟩
def zfi (nl:Nat) (x:RIns) (h:Nat):Bool:=if zm h 1=true then !decide (x.dst.kind=3)&&zbi nl x.dst else decide (x.dst.kind=0)&&decide (x.dst.n=0)
def zQ (nl:Nat) (x:RIns) (h lo hi:Nat):Bool:=
 zfi nl x h&&(x.src.all (zbi nl)&&(wi x.src.length lo hi&&(wi x.live 0 256&&((zm h 4||x.n==0)&&((zm h 8||x.name.toList.isEmpty)&&((zm h 64||x.to==0)&&((zm h 128||x.live==0)&&((zm h 16||x.cases.length==0)&&(zm h 32||x.segs.length==0)))))))))
theorem zmO (B:Nat) (u:RUnit) (lo' fo go' co':zzA) (lc fc gc' cc':Nat) (b o:Nat) (x:RIns) (so co go:zzA) (sc cc gc:Nat) (h lo hi:Nat) (w:World) (hu:UBox w B u lo' fo go' co' lc fc gc' cc') (hl:u.lits.length<=9223372036854775807) (hx:IBox w b o x so co go sc cc gc) (h1:h<1000) (h2:lo<1000) (h3:hi<1000):
  Calls Tryz.prog 70 #[.pointer (some ⟨B,0,none⟩),.pointer (some ⟨b,o,none⟩),.agg #[.int .i64 h,.int .i64 lo,.int .i64 hi]] w fun e w'=>e= .returned (.bool (zQ u.lits.length x h lo hi))/\Below w.heap.size w w':=by
 have hbe:Below w.heap.size w (w.alloc (.cells #[.int .i64 h,.int .i64 lo,.int .i64 hi] 131)):=zzE _ _;have HU:=zzH (hu.below hbe);have HX:=zzH (hx.below hbe);have hlt:=hx.lt;have hC:(w.alloc (.cells #[.int .i64 h,.int .i64 lo,.int .i64 hi] 131)).heap[w.heap.size]?=some (.cells #[.int .i64 h,.int .i64 lo,.int .i64 hi] 131 (0,0)):=zzF _ _
 clear hu hx;go_in;go_wp2_with fail;generalize w.alloc (.cells #[.int .i64 h,.int .i64 lo,.int .i64 hi] 131)=Wa at *;have HBA:=zzH hbe;generalize hCC:w.heap.size=C at hC ⊢;have hc0:Wa.cell? ⟨C,0,none⟩=some (.int .i64 h):=by rw [zzq2 _ _ _ _ _ _ hC];rfl
 have i1:=HX.out.c1;have i2:=HX.out.c2;have i3:=HX.out.c3;have hs3:=HX.out.rsrc;refine(zfc h 1 _ rfl C _ hc0 (by omega) (by omega)).mono ?_;rintro e w' ⟨rfl,rfl⟩;have HD1:Hid (zm h 1=zm h 1):=zzH rfl;generalize hq1:zm h 1=q1 at *;have HQ1:=zzH hq1;clear hq1;go_upto_if 12 with(fail);go_cut [] (fun wx=>Hid (zfi u.lits.length x h=true)/\Below Wa.heap.size Wa wx)
 case first=>
  cases q1 with
  |true=>
   cases hd2:decide (x.dst.kind=3)with
   |true=>
    have E:Hid (zQ u.lits.length x h lo hi=false):=zzH (by unfold zQ zfi;rw [HQ1.out,hd2];rfl);have hk:(x.dst.kind==3)=true:=by rw [of_decide_eq_true hd2];rfl
    clear hd2;exact zz47
   |false=>
    have hk:(x.dst.kind==3)=false:=by rw [zzq3];exact of_decide_eq_false hd2
    have hop:=zfo B u lo' fo go' co' lc fc gc' cc' x.dst _ HU.out hl ⟨HX.out.rdk,HX.out.rdn⟩
    cases hq:zbi u.lits.length x.dst with
    |false=>
     have E:Hid (zQ u.lits.length x h lo hi=false):=zzH (by unfold zQ zfi;rw [HQ1.out,hd2,hq];rfl);rw [hq]at hop;clear hd2 hq;go_wp2_with fail;refine hop.mono ?_;rintro e w5 ⟨rfl,hb5⟩;go_wp2;go_ret;exact⟨zn E.out.symm,hbe.trans (hb5.mono hbe.size)⟩
    |true=>
     have HDST:Hid (zfi u.lits.length x h=true):=zzH (by unfold zfi;rw [HQ1.out,hd2,hq];rfl);rw [hq]at hop;clear hd2 hq;go_wp2_with fail;refine hop.mono ?_;rintro e w5 ⟨rfl,hB0⟩;go_wp2_with fail;go_meet
     case rel=>exact⟨HDST,hB0⟩
  |false=>
   by_cases z1:x.dst.kind=0
   ·have y1:(x.dst.kind==0)=true:=by rw [z1];rfl
    by_cases z2:x.dst.n=0
    ·have y2:(x.dst.n==0)=true:=by rw [z2];rfl
     have HDST:Hid (zfi u.lits.length x h=true):=zzH (by unfold zfi;rw [HQ1.out,decide_eq_true z1,decide_eq_true z2];rfl);clear z1 z2;go_wp2_with fail;go_meet
     case rel=>exact⟨HDST,zzR _ _⟩
    ·have y2:(x.dst.n==0)=false:=zzB.2 z2
     have E:Hid (zQ u.lits.length x h lo hi=false):=zzH (by unfold zQ zfi;rw [HQ1.out,decide_eq_true z1,decide_eq_false z2];rfl);clear z1 z2;exact zz47
   ·have y1:(x.dst.kind==0)=false:=zzB.2 z1
    have E:Hid (zQ u.lits.length x h lo hi=false):=zzH (by unfold zQ zfi;rw [HQ1.out,decide_eq_false z1];rfl);clear z1;exact zz47
 case rest=>
  obtain⟨HDST,hB0⟩:=hcut;rename_i w5;have i3:=(HX.out.below hB0).c3;go_wp2_with fail;go_loopw [39] (fun iv wr=> ∃k:Nat,k<=x.src.length/\iv= .int .i64 k/\Hid (∀j (h:j<x.src.length),j<k->zbi u.lits.length x.src[j]=true)/\Below Wa.heap.size Wa wr) (fun iv _=>x.src.length-(intOf iv).toNat)
  case atStart=>exact⟨0,zzZ _,rfl,zzH (fun j _ h=>absurd h (zzC _)),hB0⟩
  case round=>
   obtain⟨k,hk,rfl,HK,hB⟩:=hrel;rename World=>wr
   have ib:=HX.out.below hB;have ub:=HU.out.below hB;by_cases hlt:k<x.src.length
   ·obtain⟨b2,off,hao,hb2,q0,q1,r0,r1⟩:=ib.src.arg hlt
    subst hao
    have HE:Hid (zbi u.lits.length x.src[k]=false->zQ u.lits.length x h lo hi=false):=zzH (fun hf=>by
     unfold zQ
     have:x.src.all (zbi u.lits.length)=false:=by
      rw [List.all_eq_false];exact⟨x.src[k],zzM hlt,by rw [hf];decide⟩
     rw [this];simp)
    have HN:Hid (zbi u.lits.length x.src[k]=true-> ∀j (h:j<x.src.length),j<k+1->zbi u.lits.length x.src[j]=true):=zzH (fun hne j h hj=>by
     rcases Nat.eq_or_lt_of_le (Nat.le_of_lt_succ hj)with e|e
     ·subst e;exact hne
     ·exact HK.out j h e)
    generalize x.src[k]=a at *;have hba:=(zzR wr.heap.size wr).alloc (zzL _) (.cells #[.int .i64 a.kind,.int .i64 a.n] 31);have hop:=zfo B u lo' fo go' co' lc fc gc' cc' a _ (ub.below hba) hl ⟨r0,r1⟩;clear ib ub
    cases hq:zbi u.lits.length a with
    |false=>
     have E:=zzH (HE.out hq);rw [hq]at hop;clear hq;go_wp2_with fail;refine hop.mono ?_;rintro e w5 ⟨rfl,hb5⟩;go_wp2;go_ret;exact⟨zn E.out.symm,HBA.out.trans ((hB.trans ((hba.trans (hb5.mono (by simp))).mono hB.size)).mono HBA.out.size)⟩
    |true=>
     have HN2:=zzH (HN.out hq);rw [hq]at hop;clear hq;go_wp2_with fail;refine hop.mono ?_;rintro e w5 ⟨rfl,hb5⟩;go_wp2_with fail;go_roundw
     case rel=>exact⟨k+1,by omega,by go_num,HN2,hB.trans ((hba.trans (hb5.mono (by simp))).mono hB.size)⟩
     case measure=>simp [intOf];omega
   ·have HALL:Hid (x.src.all (zbi u.lits.length)=true):=zzH (by
     rw [List.all_eq_true];intro a ha;obtain⟨j,hj,rfl⟩:=List.getElem_of_mem ha;exact HK.out j hj (by omega))
    have hC2:=(hB.block C (zc hC)).trans hC;obtain ⟨hcW,hcL,hcH⟩:=zzc3 hC2;have d3:=ib.c3;have d4:=ib.c4;have d5:=ib.c5;have d6:=ib.c6;have d7:=ib.c7;have d8:=ib.c8;have d9:=ib.c9;have hsrc:=ib.rsrc;clear ib ub hC2
    have HF:Hid (zQ u.lits.length x h lo hi=(wi x.src.length lo hi&&(wi x.live 0 256&&((zm h 4||x.n==0)&&((zm h 8||x.name.toList.isEmpty)&&((zm h 64||x.to==0)&&((zm h 128||x.live==0)&&((zm h 16||x.cases.length==0)&&(zm h 32||x.segs.length==0))))))))):=zzH (by
     unfold zQ;rw [HDST.out,HALL.out];rfl)
    have hBZ:=HBA.out.trans (hB.mono HBA.out.size)
    cases hw1:wi x.src.length lo hi with
    |false=>
     have E:Hid (zQ u.lits.length x h lo hi=false):=zzH (by rw [HF.out,hw1];rfl);go_wp2_with fail;go_quiet ((go_at_call 110;exact zze ((zO _ _ _ _).mono fun _ _ ⟨a,b⟩=>⟨a,b.symm⟩)));go_wp2;go_ret;exact⟨zn E.out.symm,zP hBZ _⟩
    |true=>
     go_wp2_with fail;go_quiet ((go_at_call 110;exact zze ((zO _ _ _ _).mono fun _ _ ⟨a,b⟩=>⟨a,b.symm⟩)));have HBQ:=zzH hBZ
     cases hw2:wi x.live 0 256 with
     |false=>
      have E:Hid (zQ u.lits.length x h lo hi=false):=zzH (by rw [HF.out,hw1,hw2];rfl);go_wp2_with (go_at_call 110;refine(zO _ _ _ _).mono ?_;rintro e w1 ⟨rfl,rfl⟩);go_ret;exact⟨zn E.out.symm,zP hBZ _⟩
     |true=>
      have HF2:Hid (zQ u.lits.length x h lo hi=((zm h 4||x.n==0)&&((zm h 8||x.name.toList.isEmpty)&&((zm h 64||x.to==0)&&((zm h 128||x.live==0)&&((zm h 16||x.cases.length==0)&&(zm h 32||x.segs.length==0))))))):=zzH (by rw [HF.out,hw1,hw2];rfl);clear HF;have HQ0:=zzH hcW;go_upto_region 16 with(go_at_call 110;refine(zO _ _ _ _).mono ?_;rintro e w1 ⟨rfl,rfl⟩);have hBW:=zP hBZ nq;refine zzK7 d3 d4 d5 d6 d7 d8 d9 fun d3' d4' d5' d6' d7' d8' d9'=>?_;clear d3 d4 d5 d6 d7 d8 d9 hcW hcL hcH;generalize hWQ:wr.drewN nq=Wq at *;have hcW:Wq.cell? ⟨C,0,none⟩=some (.int .i64 h):=by rw [<-hWQ];exact HQ0.out
      have d4:=d4'.out;rw [show wr.cell?=Wq.cell? from by rw [<-hWQ];rfl]at d4;have d5:=d5'.out;rw [show wr.cell?=Wq.cell? from by rw [<-hWQ];rfl]at d5;have d6:=d6'.out;rw [show wr.cell?=Wq.cell? from by rw [<-hWQ];rfl]at d6;have d7:=d7'.out;rw [show wr.cell?=Wq.cell? from by rw [<-hWQ];rfl]at d7;have d8:=d8'.out;rw [show wr.cell?=Wq.cell? from by rw [<-hWQ];rfl]at d8;have d9:=d9'.out;rw [show wr.cell?=Wq.cell? from by rw [<-hWQ];rfl]at d9;clear hWQ;have HG0:Hid (zQ u.lits.length x h lo hi=((zm h 4||x.n==0)&&((zm h 8||x.name.toList.isEmpty)&&((zm h 64||x.to==0)&&((zm h 128||x.live==0)&&((zm h 16||x.cases.length==0)&&(zm h 32||x.segs.length==0))))))):=zzH (by rw [HF2.out]);have hh:=fun wx (hc:wx.cell? ⟨C,0,none⟩=some (.int .i64 h))=>zfc h 4 4 rfl C wx hc (by omega) (by omega)
      go_cut [66] (fun sv wx=> ∃v:Bool,sv= .bool v/\Hid ((zm h 4||x.n==0)= !v)/\Wq=wx)
      case first=>
       go_wp2_with fail;refine(hh _ hcW).mono ?_;rintro e w1 ⟨rfl,rfl⟩
       cases hq4:zm h 4
       ·exact zz49
       ·exact zz49
      case rest=>
       obtain⟨v,rfl,HV00,rfl⟩:=hcut;clear hh
       cases v with
       |true=>
        have E:Hid (zQ u.lits.length x h lo hi=false):=zzH (by rw [HG0.out,HV00.out];rfl);exact zz50
       |false=>
        have HV0:Hid ((zm h 4||x.n==0)=true):=zzH (by rw [HV00.out];rfl);go_upto_region 17 with fail;have HG1:Hid (zQ u.lits.length x h lo hi=((zm h 8||x.name.toList.isEmpty)&&((zm h 64||x.to==0)&&((zm h 128||x.live==0)&&((zm h 16||x.cases.length==0)&&(zm h 32||x.segs.length==0)))))):=zzH (by rw [HG0.out,HV0.out,zzq15]);have hh:=fun wx (hc:wx.cell? ⟨C,0,none⟩=some (.int .i64 h))=>zfc h 8 8 rfl C wx hc (by omega) (by omega)
        go_cut [66] (fun sv wx=> ∃v:Bool,sv= .bool v/\Hid ((zm h 8||x.name.toList.isEmpty)= !v)/\Wq=wx)
        case first=>
         go_wp2_with fail;refine(hh _ hcW).mono ?_;rintro e w1 ⟨rfl,rfl⟩
         cases hq4:zm h 8
         ·exact zz49
         ·exact zz49
        case rest=>
         obtain⟨v,rfl,HV10,rfl⟩:=hcut;clear hh
         cases v with
         |true=>
          have E:Hid (zQ u.lits.length x h lo hi=false):=zzH (by rw [HG1.out,HV10.out];rfl);exact zz50
         |false=>
          have HV1:Hid ((zm h 8||x.name.toList.isEmpty)=true):=zzH (by rw [HV10.out];rfl);go_upto_region 18 with fail;have HG2:Hid (zQ u.lits.length x h lo hi=((zm h 64||x.to==0)&&((zm h 128||x.live==0)&&((zm h 16||x.cases.length==0)&&(zm h 32||x.segs.length==0))))):=zzH (by rw [HG1.out,HV1.out,zzq15]);have hh:=fun wx (hc:wx.cell? ⟨C,0,none⟩=some (.int .i64 h))=>zfc h 64 64 rfl C wx hc (by omega) (by omega)
          go_cut [66] (fun sv wx=> ∃v:Bool,sv= .bool v/\Hid ((zm h 64||x.to==0)= !v)/\Wq=wx)
          case first=>
           go_wp2_with fail;refine(hh _ hcW).mono ?_;rintro e w1 ⟨rfl,rfl⟩
           cases hq4:zm h 64
           ·exact zz49
           ·exact zz49
          case rest=>
           obtain⟨v,rfl,HV20,rfl⟩:=hcut;clear hh
           cases v with
           |true=>
            have E:Hid (zQ u.lits.length x h lo hi=false):=zzH (by rw [HG2.out,HV20.out];rfl);exact zz50
           |false=>
            have HV2:Hid ((zm h 64||x.to==0)=true):=zzH (by rw [HV20.out];rfl);go_upto_region 19 with fail;have HG3:Hid (zQ u.lits.length x h lo hi=((zm h 128||x.live==0)&&((zm h 16||x.cases.length==0)&&(zm h 32||x.segs.length==0)))):=zzH (by rw [HG2.out,HV2.out,zzq15]);have hh:=fun wx (hc:wx.cell? ⟨C,0,none⟩=some (.int .i64 h))=>zfc h 128 128 rfl C wx hc (by omega) (by omega)
            go_cut [66] (fun sv wx=> ∃v:Bool,sv= .bool v/\Hid ((zm h 128||x.live==0)= !v)/\Wq=wx)
            case first=>
             go_wp2_with fail;refine(hh _ hcW).mono ?_;rintro e w1 ⟨rfl,rfl⟩
             cases hq4:zm h 128
             ·exact zz49
             ·exact zz49
            case rest=>
             obtain⟨v,rfl,HV30,rfl⟩:=hcut;clear hh
             cases v with
             |true=>
              have E:Hid (zQ u.lits.length x h lo hi=false):=zzH (by rw [HG3.out,HV30.out];rfl);exact zz50
             |false=>
              have HV3:Hid ((zm h 128||x.live==0)=true):=zzH (by rw [HV30.out];rfl);go_upto_region 21 with fail;have HG4:Hid (zQ u.lits.length x h lo hi=((zm h 16||x.cases.length==0)&&(zm h 32||x.segs.length==0))):=zzH (by rw [HG3.out,HV3.out,zzq15]);have hh:=fun wx (hc:wx.cell? ⟨C,0,none⟩=some (.int .i64 h))=>zfc h 16 16 rfl C wx hc (by omega) (by omega)
              go_cut [107] (fun sv wx=> ∃v:Bool,sv= .bool v/\Hid ((zm h 16||x.cases.length==0)= !v)/\Wq=wx)
              case first=>
               go_wp2_with fail;refine(hh _ hcW).mono ?_;rintro e w1 ⟨rfl,rfl⟩
               cases hq4:zm h 16
               ·exact zz49
               ·exact zz49
              case rest=>
               obtain⟨v,rfl,HV40,rfl⟩:=hcut;clear hh
               cases v with
               |true=>
                have E:Hid (zQ u.lits.length x h lo hi=false):=zzH (by rw [HG4.out,HV40.out];rfl);exact zz50
               |false=>
                have HV4:Hid ((zm h 16||x.cases.length==0)=true):=zzH (by rw [HV40.out];rfl);go_upto_region 22 with fail;have HG5:Hid (zQ u.lits.length x h lo hi=(zm h 32||x.segs.length==0)):=zzH (by rw [HG4.out,HV4.out,zzq15]);have hh:=fun wx (hc:wx.cell? ⟨C,0,none⟩=some (.int .i64 h))=>zfc h 32 32 rfl C wx hc (by omega) (by omega)
                go_cut [107] (fun sv wx=> ∃v:Bool,sv= .bool v/\Hid ((zm h 32||x.segs.length==0)= !v)/\Wq=wx)
                case first=>
                 go_wp2_with fail;refine(hh _ hcW).mono ?_;rintro e w1 ⟨rfl,rfl⟩
                 cases hq4:zm h 32
                 ·exact zz49
                 ·exact zz49
                case rest=>
                 obtain⟨v,rfl,HV50,rfl⟩:=hcut;clear hh
                 cases v with
                 |true=>
                  have E:Hid (zQ u.lits.length x h lo hi=false):=zzH (by rw [HG5.out,HV50.out];rfl);exact zz50
                 |false=>
                  have HV5:Hid ((zm h 32||x.segs.length==0)=true):=zzH (by rw [HV50.out];rfl);have E:Hid (zQ u.lits.length x h lo hi=true):=zzH (by rw [HG5.out,HV5.out]);exact zz50
open Go.RowKit Go.Maps Go.WideMaps
theorem zsz:laidOutB Tryz.prog=true:=by kernel_rfl
theorem sigLaw:Keyed Tryz.prog 178:=Keyed.of_law (deep_law_laid zsz (m:=2) (by omega) (zza (by kernel_rfl)) (by kernel_rfl) (by rw [Tryz.underlying178]))
theorem zqO (w:World):(zeroValue 4).run Tryz.prog w= .ok (.bool false) w:=by kernel_rfl
def zfP (s:ByteArray) (a:Int):Lit:=.string (keyBytes [.string s.data.toList,.int .i64 a])
theorem znq:Tryz.prog.keyType 178=true:=by kernel_rfl
theorem sigCells:Tryz.prog.cellsOf 178=2:=by kernel_rfl
theorem zpo:Tryz.prog.cellsOf 9=1:=by kernel_rfl
theorem zpa:Tryz.prog.cellsOf 3=1:=by kernel_rfl
theorem zqW: ∃m,Tryz.prog.types.size+1=m+1+1:=⟨Tryz.prog.types.size-1,by have:0<Tryz.prog.types.size:=zza (by kernel_rfl);omega⟩
theorem zfx {s:ByteArray} {a:Int} (hs:s.size<=maxLen) (ha:I64 a):keyOf Tryz.prog 178 (.agg #[.string s,.int .i64 a])=some (zfP s a):=by
 have hwf:(Lit.int .i64 a).wf=true:=by
  obtain⟨h1,h2⟩:=ha;simp [Lit.wf,IntKind.min,IntKind.max,IntKind.bits,IntKind.signed];omega
 unfold keyOf zfP;simp only [Tryz.underlying178];rw [if_pos (by simp [znq,Value.formed,Tryz.underlying178,sigCells])];obtain⟨m,hm⟩:=zqW;rw [hm];unfold Program.keyLits;simp only [Tryz.underlying178,Value.cells];simp [Program.keyLits,Tryz.underlying9,Tryz.underlying3,zpo,zpa,hs,hwf];exact sigCells.symm
theorem znN {s s':ByteArray} {a a':Int} (hs:s.size<=maxLen) (hs':s'.size<=maxLen) (ha:I64 a) (ha':I64 a') (h:zfP s a=zfP s' a'):s=s'/\a=a':=by
 have h1:=zfx hs ha;have h2:=zfx hs' ha';rw [<-h]at h2;have h3:=sigLaw.inj h1 h2;injection h3 with h3;have h4:=congrArg Array.toList h3;simp at h4;exact h4
def SigIs (w:World) (M n:Nat) (S:ByteArray->Int->Bool):Prop:= ∃D:DataW Unit,w.ownsMap Tryz.prog 178 (plainElem Tryz.prog 4) M n D/\ ∀(s:ByteArray) (a:Int),s.size<=maxLen->I64 a->D.atKey (zfP s a) (.lit (.bool false))= .lit (.bool (S s a))
theorem SigIs.kept {w w':World} {M n:Nat} {S:ByteArray->Int->Bool} (h:SigIs w M n S) (hb:Below w.heap.size w w'):SigIs w' M n S:=by
 obtain⟨D,h1,h2⟩:=h;exact⟨D,h1.kept (row:=none) ⟨hb.os,hb.tape,hb.output,hb.size,fun k hk _=>hb.block k hk⟩ (by simp),h2⟩
theorem SigIs.lt {w:World} {M n:Nat} {S:ByteArray->Int->Bool} (h:SigIs w M n S):M<w.heap.size:=h.elim fun _ h=>h.1.lt
theorem zq2 (w:World):SigIs (w.alloc (.map #[] 0)) w.heap.size 0 (fun _ _=>false):=⟨_,World.ownsMap_made w _ _ _,fun s a _ _=>rfl⟩
theorem zg3 {P:Program} {e:TypeId} (he:P.underlying e=some .bool) {v:Value} {z:DataW Unit × List MemPlace} (h:plainElem P e v=some z): ∃c,v= .bool c/\z=(.lit (.bool c),[]):=by
 unfold plainElem at h;rw [he]at h
 cases v<;>simp at h
 exact⟨_,rfl,h.symm⟩
theorem zrC {w:World} {M n:Nat} {S:ByteArray->Int->Bool} (h:SigIs w M n S) {s:ByteArray} {a:Int} (hs:s.size<=maxLen) (ha:I64 a):
  (Instr.lookup 176 (.map (some M)) (.agg #[.string s,.int .i64 a]) false).run Tryz.prog w= .ok (.bool (S s a)) w:=by
 obtain⟨D,h1,h2⟩:=h;obtain⟨v,ps,hrun,hv⟩:=h1.lookup sigLaw Tryz.underlying176 (zqO w) (plainElem_bool Tryz.underlying4 false) (zfx hs ha);obtain⟨c,rfl,hc⟩:=zg3 Tryz.underlying4 hv;rw [h2 s a hs ha]at hc;have e1:(DataW.lit (.bool (S s a)):DataW Unit)= .lit (.bool c):=congrArg Prod.fst hc;have e2:S s a=c:=by injection e1 with e1;injection e1
 rw [hrun,e2]
theorem ztz {w w':World} {M n:Nat} {S:ByteArray->Int->Bool} {D:DataW Unit} (h1:w.ownsMap Tryz.prog 178 (plainElem Tryz.prog 4) M n D) (h2: ∀(s:ByteArray) (a:Int),s.size<=maxLen->I64 a->D.atKey (zfP s a) (.lit (.bool false))= .lit (.bool (S s a)))
  {s:ByteArray} {a:Int} (hs:s.size<=maxLen) (ha:I64 a) (h3:w'.ownsMap Tryz.prog 178 (plainElem Tryz.prog 4) M (n+1) (D.put (zfP s a) (.lit (.bool true)))):SigIs w' M (n+1) (fun s' a'=>(s.data.toList==s'.data.toList&&a==a')||S s' a'):=by
 refine⟨_,h3,fun s' a' hs' ha'=>?_⟩;by_cases e:s'=s/\a'=a
 ·obtain⟨rfl,rfl⟩:=e
  rw [atKey_put_same h1.isMap (sigLaw.key (zfx hs ha))];simp
 ·rw [atKey_put_other (fun h=>e (znN hs' hs ha' ha h)),h2 s' a' hs' ha']
  have:(s.data.toList==s'.data.toList&&a==a')=false:=by
   cases h:(s.data.toList==s'.data.toList&&a==a')with
   |false=>rfl
   |true=>
    rw [zzq6,beq_iff_eq,beq_iff_eq]at h;exact absurd ⟨ByteArray.ext (Array.toList_inj.1 h.1.symm),h.2.symm⟩ e
  simp only [this,zzq9]
def zl (nf:Nat) (funs:List RFun) (x:RIns):Bool:=
 if x.op=4 then wi x.n 0 ((funs.length:Int)-1)&&(match funs[x.n.toNat]? with
  |some f=>decide ((x.src.length:Int)=f.free)
  |none=>false)
 else if x.op=5 then wi x.n 0 254 else if x.op=9 then wi x.n 0 255 else if x.op=16\/x.op=17 then wi x.n 0 ((nf:Int)-1)
 else if x.op=15\/x.op=18\/x.op=19\/x.op=20\/x.op=21 then wi x.n 0 16 else if x.op=24 then wi x.n 1 8192 else if x.op=31 then wi x.n 0 3
 else if x.op=32\/x.op=33 then decide (x.n=1)||decide (x.n=8)else true
theorem zrt (B:Nat) (u:RUnit) (lo' fo go' co':zzA) (lc fc gc' cc':Nat) (b o:Nat) (x:RIns) (so co go:zzA) (sc cc gc:Nat) (w:World) (hu:UBox w B u lo' fo go' co' lc fc gc' cc') (hl:u.funcs.length<=9223372036854775807) (hl2:u.funs.length<=9223372036854775807) (hf:SlAt w 3 zbA go' u.funs) (hx:IBox w b o x so co go sc cc gc) (hop:x.op=5):
  Calls Tryz.prog 71 #[.pointer (some ⟨B,0,none⟩),.pointer (some ⟨b,o,none⟩)] w fun e w'=>e= .returned (.bool (zl u.funcs.length u.funs x))/\Below w.heap.size w w':=by
 have c0:=hx.c0;have c3:=hx.c3;have c5:=hx.c5;have b3:=hu.c3;have b4:=hu.c4;have r1:=hx.rn;have r2:=hx.rsrc;obtain⟨r1a,r1b⟩:=r1;have HF:=zzH hf;clear hu hx hf;have hw1:=zzV u.funcs.length (by omega)
 have hw2:=zzV u.funs.length (by omega)
 have E:Hid (zl u.funcs.length u.funs x=wi x.n 0 254):=zzH (by unfold zl;rw [hop];rfl);rw [hop]at c0;clear hop;go_in;go_wp2_with (go_at_call 110;refine(zO _ _ _ _).mono ?_;rintro e w1 ⟨rfl,rfl⟩);go_ret;exact⟨zn E.out.symm,zzR _ _⟩
theorem zrD (B:Nat) (u:RUnit) (lo' fo go' co':zzA) (lc fc gc' cc':Nat) (b o:Nat) (x:RIns) (so co go:zzA) (sc cc gc:Nat) (w:World) (hu:UBox w B u lo' fo go' co' lc fc gc' cc') (hl:u.funcs.length<=9223372036854775807) (hl2:u.funs.length<=9223372036854775807) (hf:SlAt w 3 zbA go' u.funs) (hx:IBox w b o x so co go sc cc gc) (hop:x.op=9):
  Calls Tryz.prog 71 #[.pointer (some ⟨B,0,none⟩),.pointer (some ⟨b,o,none⟩)] w fun e w'=>e= .returned (.bool (zl u.funcs.length u.funs x))/\Below w.heap.size w w':=by
 have c0:=hx.c0;have c3:=hx.c3;have c5:=hx.c5;have b3:=hu.c3;have b4:=hu.c4;have r1:=hx.rn;have r2:=hx.rsrc;obtain⟨r1a,r1b⟩:=r1;have HF:=zzH hf;clear hu hx hf;have hw1:=zzV u.funcs.length (by omega)
 have hw2:=zzV u.funs.length (by omega)
 have E:Hid (zl u.funcs.length u.funs x=wi x.n 0 255):=zzH (by unfold zl;rw [hop];rfl);rw [hop]at c0;clear hop;go_in;go_wp2_with (go_at_call 110;refine(zO _ _ _ _).mono ?_;rintro e w1 ⟨rfl,rfl⟩);go_ret;exact⟨zn E.out.symm,zzR _ _⟩
theorem zpq (B:Nat) (u:RUnit) (lo' fo go' co':zzA) (lc fc gc' cc':Nat) (b o:Nat) (x:RIns) (so co go:zzA) (sc cc gc:Nat) (w:World) (hu:UBox w B u lo' fo go' co' lc fc gc' cc') (hl:u.funcs.length<=9223372036854775807) (hl2:u.funs.length<=9223372036854775807) (hf:SlAt w 3 zbA go' u.funs) (hx:IBox w b o x so co go sc cc gc) (hop:x.op=15):
  Calls Tryz.prog 71 #[.pointer (some ⟨B,0,none⟩),.pointer (some ⟨b,o,none⟩)] w fun e w'=>e= .returned (.bool (zl u.funcs.length u.funs x))/\Below w.heap.size w w':=by
 have c0:=hx.c0;have c3:=hx.c3;have c5:=hx.c5;have b3:=hu.c3;have b4:=hu.c4;have r1:=hx.rn;have r2:=hx.rsrc;obtain⟨r1a,r1b⟩:=r1;have HF:=zzH hf;clear hu hx hf;have hw1:=zzV u.funcs.length (by omega)
 have hw2:=zzV u.funs.length (by omega)
 have E:Hid (zl u.funcs.length u.funs x=wi x.n 0 16):=zzH (by unfold zl;rw [hop];rfl);rw [hop]at c0;clear hop;go_in;go_wp2_with (go_at_call 110;refine(zO _ _ _ _).mono ?_;rintro e w1 ⟨rfl,rfl⟩);go_ret;exact⟨zn E.out.symm,zzR _ _⟩
theorem zpV (B:Nat) (u:RUnit) (lo' fo go' co':zzA) (lc fc gc' cc':Nat) (b o:Nat) (x:RIns) (so co go:zzA) (sc cc gc:Nat) (w:World) (hu:UBox w B u lo' fo go' co' lc fc gc' cc') (hl:u.funcs.length<=9223372036854775807) (hl2:u.funs.length<=9223372036854775807) (hf:SlAt w 3 zbA go' u.funs) (hx:IBox w b o x so co go sc cc gc) (hop:x.op=18):
  Calls Tryz.prog 71 #[.pointer (some ⟨B,0,none⟩),.pointer (some ⟨b,o,none⟩)] w fun e w'=>e= .returned (.bool (zl u.funcs.length u.funs x))/\Below w.heap.size w w':=by
 have c0:=hx.c0;have c3:=hx.c3;have c5:=hx.c5;have b3:=hu.c3;have b4:=hu.c4;have r1:=hx.rn;have r2:=hx.rsrc;obtain⟨r1a,r1b⟩:=r1;have HF:=zzH hf;clear hu hx hf;have hw1:=zzV u.funcs.length (by omega)
 have hw2:=zzV u.funs.length (by omega)
 have E:Hid (zl u.funcs.length u.funs x=wi x.n 0 16):=zzH (by unfold zl;rw [hop];rfl);rw [hop]at c0;clear hop;go_in;go_wp2_with (go_at_call 110;refine(zO _ _ _ _).mono ?_;rintro e w1 ⟨rfl,rfl⟩);go_ret;exact⟨zn E.out.symm,zzR _ _⟩
theorem zoP (B:Nat) (u:RUnit) (lo' fo go' co':zzA) (lc fc gc' cc':Nat) (b o:Nat) (x:RIns) (so co go:zzA) (sc cc gc:Nat) (w:World) (hu:UBox w B u lo' fo go' co' lc fc gc' cc') (hl:u.funcs.length<=9223372036854775807) (hl2:u.funs.length<=9223372036854775807) (hf:SlAt w 3 zbA go' u.funs) (hx:IBox w b o x so co go sc cc gc) (hop:x.op=19):
  Calls Tryz.prog 71 #[.pointer (some ⟨B,0,none⟩),.pointer (some ⟨b,o,none⟩)] w fun e w'=>e= .returned (.bool (zl u.funcs.length u.funs x))/\Below w.heap.size w w':=by
 have c0:=hx.c0;have c3:=hx.c3;have c5:=hx.c5;have b3:=hu.c3;have b4:=hu.c4;have r1:=hx.rn;have r2:=hx.rsrc;obtain⟨r1a,r1b⟩:=r1;have HF:=zzH hf;clear hu hx hf;have hw1:=zzV u.funcs.length (by omega)
 have hw2:=zzV u.funs.length (by omega)
 have E:Hid (zl u.funcs.length u.funs x=wi x.n 0 16):=zzH (by unfold zl;rw [hop];rfl);rw [hop]at c0;clear hop;go_in;go_wp2_with (go_at_call 110;refine(zO _ _ _ _).mono ?_;rintro e w1 ⟨rfl,rfl⟩);go_ret;exact⟨zn E.out.symm,zzR _ _⟩
theorem zo1 (B:Nat) (u:RUnit) (lo' fo go' co':zzA) (lc fc gc' cc':Nat) (b o:Nat) (x:RIns) (so co go:zzA) (sc cc gc:Nat) (w:World) (hu:UBox w B u lo' fo go' co' lc fc gc' cc') (hl:u.funcs.length<=9223372036854775807) (hl2:u.funs.length<=9223372036854775807) (hf:SlAt w 3 zbA go' u.funs) (hx:IBox w b o x so co go sc cc gc) (hop:x.op=20):
  Calls Tryz.prog 71 #[.pointer (some ⟨B,0,none⟩),.pointer (some ⟨b,o,none⟩)] w fun e w'=>e= .returned (.bool (zl u.funcs.length u.funs x))/\Below w.heap.size w w':=by
 have c0:=hx.c0;have c3:=hx.c3;have c5:=hx.c5;have b3:=hu.c3;have b4:=hu.c4;have r1:=hx.rn;have r2:=hx.rsrc;obtain⟨r1a,r1b⟩:=r1;have HF:=zzH hf;clear hu hx hf;have hw1:=zzV u.funcs.length (by omega)
 have hw2:=zzV u.funs.length (by omega)
 have E:Hid (zl u.funcs.length u.funs x=wi x.n 0 16):=zzH (by unfold zl;rw [hop];rfl);rw [hop]at c0;clear hop;go_in;go_wp2_with (go_at_call 110;refine(zO _ _ _ _).mono ?_;rintro e w1 ⟨rfl,rfl⟩);go_ret;exact⟨zn E.out.symm,zzR _ _⟩
theorem zoc (B:Nat) (u:RUnit) (lo' fo go' co':zzA) (lc fc gc' cc':Nat) (b o:Nat) (x:RIns) (so co go:zzA) (sc cc gc:Nat) (w:World) (hu:UBox w B u lo' fo go' co' lc fc gc' cc') (hl:u.funcs.length<=9223372036854775807) (hl2:u.funs.length<=9223372036854775807) (hf:SlAt w 3 zbA go' u.funs) (hx:IBox w b o x so co go sc cc gc) (hop:x.op=21):
  Calls Tryz.prog 71 #[.pointer (some ⟨B,0,none⟩),.pointer (some ⟨b,o,none⟩)] w fun e w'=>e= .returned (.bool (zl u.funcs.length u.funs x))/\Below w.heap.size w w':=by
 have c0:=hx.c0;have c3:=hx.c3;have c5:=hx.c5;have b3:=hu.c3;have b4:=hu.c4;have r1:=hx.rn;have r2:=hx.rsrc;obtain⟨r1a,r1b⟩:=r1;have HF:=zzH hf;clear hu hx hf;have hw1:=zzV u.funcs.length (by omega)
 have hw2:=zzV u.funs.length (by omega)
 have E:Hid (zl u.funcs.length u.funs x=wi x.n 0 16):=zzH (by unfold zl;rw [hop];rfl);rw [hop]at c0;clear hop;go_in;go_wp2_with (go_at_call 110;refine(zO _ _ _ _).mono ?_;rintro e w1 ⟨rfl,rfl⟩);go_ret;exact⟨zn E.out.symm,zzR _ _⟩
theorem zo8 (B:Nat) (u:RUnit) (lo' fo go' co':zzA) (lc fc gc' cc':Nat) (b o:Nat) (x:RIns) (so co go:zzA) (sc cc gc:Nat) (w:World) (hu:UBox w B u lo' fo go' co' lc fc gc' cc') (hl:u.funcs.length<=9223372036854775807) (hl2:u.funs.length<=9223372036854775807) (hf:SlAt w 3 zbA go' u.funs) (hx:IBox w b o x so co go sc cc gc) (hop:x.op=24):
  Calls Tryz.prog 71 #[.pointer (some ⟨B,0,none⟩),.pointer (some ⟨b,o,none⟩)] w fun e w'=>e= .returned (.bool (zl u.funcs.length u.funs x))/\Below w.heap.size w w':=by
 have c0:=hx.c0;have c3:=hx.c3;have c5:=hx.c5;have b3:=hu.c3;have b4:=hu.c4;have r1:=hx.rn;have r2:=hx.rsrc;obtain⟨r1a,r1b⟩:=r1;have HF:=zzH hf;clear hu hx hf;have hw1:=zzV u.funcs.length (by omega)
 have hw2:=zzV u.funs.length (by omega)
 have E:Hid (zl u.funcs.length u.funs x=wi x.n 1 8192):=zzH (by unfold zl;rw [hop];rfl);rw [hop]at c0;clear hop;go_in;go_wp2_with (go_at_call 110;refine(zO _ _ _ _).mono ?_;rintro e w1 ⟨rfl,rfl⟩);go_ret;exact⟨zn E.out.symm,zzR _ _⟩
theorem zo3 (B:Nat) (u:RUnit) (lo' fo go' co':zzA) (lc fc gc' cc':Nat) (b o:Nat) (x:RIns) (so co go:zzA) (sc cc gc:Nat) (w:World) (hu:UBox w B u lo' fo go' co' lc fc gc' cc') (hl:u.funcs.length<=9223372036854775807) (hl2:u.funs.length<=9223372036854775807) (hf:SlAt w 3 zbA go' u.funs) (hx:IBox w b o x so co go sc cc gc) (hop:x.op=31):
  Calls Tryz.prog 71 #[.pointer (some ⟨B,0,none⟩),.pointer (some ⟨b,o,none⟩)] w fun e w'=>e= .returned (.bool (zl u.funcs.length u.funs x))/\Below w.heap.size w w':=by
 have c0:=hx.c0;have c3:=hx.c3;have c5:=hx.c5;have b3:=hu.c3;have b4:=hu.c4;have r1:=hx.rn;have r2:=hx.rsrc;obtain⟨r1a,r1b⟩:=r1;have HF:=zzH hf;clear hu hx hf;have hw1:=zzV u.funcs.length (by omega)
 have hw2:=zzV u.funs.length (by omega)
 have E:Hid (zl u.funcs.length u.funs x=wi x.n 0 3):=zzH (by unfold zl;rw [hop];rfl);rw [hop]at c0;clear hop;go_in;go_wp2_with (go_at_call 110;refine(zO _ _ _ _).mono ?_;rintro e w1 ⟨rfl,rfl⟩);go_ret;exact⟨zn E.out.symm,zzR _ _⟩
theorem zpg (B:Nat) (u:RUnit) (lo' fo go' co':zzA) (lc fc gc' cc':Nat) (b o:Nat) (x:RIns) (so co go:zzA) (sc cc gc:Nat) (w:World) (hu:UBox w B u lo' fo go' co' lc fc gc' cc') (hl:u.funcs.length<=9223372036854775807) (hl2:u.funs.length<=9223372036854775807) (hf:SlAt w 3 zbA go' u.funs) (hx:IBox w b o x so co go sc cc gc) (hop:x.op=16):
  Calls Tryz.prog 71 #[.pointer (some ⟨B,0,none⟩),.pointer (some ⟨b,o,none⟩)] w fun e w'=>e= .returned (.bool (zl u.funcs.length u.funs x))/\Below w.heap.size w w':=by
 have c0:=hx.c0;have c3:=hx.c3;have c5:=hx.c5;have b3:=hu.c3;have b4:=hu.c4;have r1:=hx.rn;have r2:=hx.rsrc;obtain⟨r1a,r1b⟩:=r1;have HF:=zzH hf;clear hu hx hf;have hw1:=zzV u.funcs.length (by omega)
 have hw2:=zzV u.funs.length (by omega)
 have E:Hid (zl u.funcs.length u.funs x=wi x.n 0 ((u.funcs.length:Int)-1)):=zzH (by unfold zl;rw [hop];rfl);rw [hop]at c0;clear hop;go_in;go_wp2_with fail;go_quiet ((go_at_call 110;exact zze ((zO _ _ _ _).mono fun _ _ ⟨a,b⟩=>⟨a,b.symm⟩)));go_wp2;go_ret;exact⟨zn E.out.symm,zP (zzR _ _) _⟩
theorem zpx (B:Nat) (u:RUnit) (lo' fo go' co':zzA) (lc fc gc' cc':Nat) (b o:Nat) (x:RIns) (so co go:zzA) (sc cc gc:Nat) (w:World) (hu:UBox w B u lo' fo go' co' lc fc gc' cc') (hl:u.funcs.length<=9223372036854775807) (hl2:u.funs.length<=9223372036854775807) (hf:SlAt w 3 zbA go' u.funs) (hx:IBox w b o x so co go sc cc gc) (hop:x.op=17):
  Calls Tryz.prog 71 #[.pointer (some ⟨B,0,none⟩),.pointer (some ⟨b,o,none⟩)] w fun e w'=>e= .returned (.bool (zl u.funcs.length u.funs x))/\Below w.heap.size w w':=by
 have c0:=hx.c0;have c3:=hx.c3;have c5:=hx.c5;have b3:=hu.c3;have b4:=hu.c4;have r1:=hx.rn;have r2:=hx.rsrc;obtain⟨r1a,r1b⟩:=r1;have HF:=zzH hf;clear hu hx hf;have hw1:=zzV u.funcs.length (by omega)
 have hw2:=zzV u.funs.length (by omega)
 have E:Hid (zl u.funcs.length u.funs x=wi x.n 0 ((u.funcs.length:Int)-1)):=zzH (by unfold zl;rw [hop];rfl);rw [hop]at c0;clear hop;go_in;go_wp2_with fail;go_quiet ((go_at_call 110;exact zze ((zO _ _ _ _).mono fun _ _ ⟨a,b⟩=>⟨a,b.symm⟩)));go_wp2;go_ret;exact⟨zn E.out.symm,zP (zzR _ _) _⟩
theorem zn5 (B:Nat) (u:RUnit) (lo' fo go' co':zzA) (lc fc gc' cc':Nat) (b o:Nat) (x:RIns) (so co go:zzA) (sc cc gc:Nat) (w:World) (hu:UBox w B u lo' fo go' co' lc fc gc' cc') (hl:u.funcs.length<=9223372036854775807) (hl2:u.funs.length<=9223372036854775807) (hf:SlAt w 3 zbA go' u.funs) (hx:IBox w b o x so co go sc cc gc) (hop:x.op=32):
  Calls Tryz.prog 71 #[.pointer (some ⟨B,0,none⟩),.pointer (some ⟨b,o,none⟩)] w fun e w'=>e= .returned (.bool (zl u.funcs.length u.funs x))/\Below w.heap.size w w':=by
 have c0:=hx.c0;have c3:=hx.c3;have c5:=hx.c5;have b3:=hu.c3;have b4:=hu.c4;have r1:=hx.rn;have r2:=hx.rsrc;obtain⟨r1a,r1b⟩:=r1;have HF:=zzH hf;clear hu hx hf;have hw1:=zzV u.funcs.length (by omega)
 have hw2:=zzV u.funs.length (by omega)
 have E:Hid (zl u.funcs.length u.funs x=(decide (x.n=1)||decide (x.n=8))):=zzH (by unfold zl;rw [hop];rfl);rw [hop]at c0;clear hop;by_cases n1:x.n=1
 ·exact zz55
 ·exact zz54
theorem zpw (B:Nat) (u:RUnit) (lo' fo go' co':zzA) (lc fc gc' cc':Nat) (b o:Nat) (x:RIns) (so co go:zzA) (sc cc gc:Nat) (w:World) (hu:UBox w B u lo' fo go' co' lc fc gc' cc') (hl:u.funcs.length<=9223372036854775807) (hl2:u.funs.length<=9223372036854775807) (hf:SlAt w 3 zbA go' u.funs) (hx:IBox w b o x so co go sc cc gc) (hop:x.op=33):
  Calls Tryz.prog 71 #[.pointer (some ⟨B,0,none⟩),.pointer (some ⟨b,o,none⟩)] w fun e w'=>e= .returned (.bool (zl u.funcs.length u.funs x))/\Below w.heap.size w w':=by
 have c0:=hx.c0;have c3:=hx.c3;have c5:=hx.c5;have b3:=hu.c3;have b4:=hu.c4;have r1:=hx.rn;have r2:=hx.rsrc;obtain⟨r1a,r1b⟩:=r1;have HF:=zzH hf;clear hu hx hf;have hw1:=zzV u.funcs.length (by omega)
 have hw2:=zzV u.funs.length (by omega)
 have E:Hid (zl u.funcs.length u.funs x=(decide (x.n=1)||decide (x.n=8))):=zzH (by unfold zl;rw [hop];rfl);rw [hop]at c0;clear hop;by_cases n1:x.n=1
 ·exact zz55
 ·exact zz54
theorem zlI (B:Nat) (u:RUnit) (lo' fo go' co':zzA) (lc fc gc' cc':Nat) (b o:Nat) (x:RIns) (so co go:zzA) (sc cc gc:Nat) (w:World) (hu:UBox w B u lo' fo go' co' lc fc gc' cc') (hl:u.funcs.length<=9223372036854775807) (hl2:u.funs.length<=9223372036854775807) (hf:SlAt w 3 zbA go' u.funs) (hx:IBox w b o x so co go sc cc gc) (h5: ¬x.op=5) (h9: ¬x.op=9) (h15: ¬x.op=15) (h18: ¬x.op=18) (h19: ¬x.op=19) (h20: ¬x.op=20) (h21: ¬x.op=21) (h24: ¬x.op=24) (h31: ¬x.op=31) (h16: ¬x.op=16) (h17: ¬x.op=17) (h32: ¬x.op=32) (h33: ¬x.op=33) (h4: ¬x.op=4):
  Calls Tryz.prog 71 #[.pointer (some ⟨B,0,none⟩),.pointer (some ⟨b,o,none⟩)] w fun e w'=>e= .returned (.bool (zl u.funcs.length u.funs x))/\Below w.heap.size w w':=by
 have c0:=hx.c0;have c3:=hx.c3;have c5:=hx.c5;have b3:=hu.c3;have b4:=hu.c4;have r1:=hx.rn;have r2:=hx.rsrc;obtain⟨r1a,r1b⟩:=r1;have HF:=zzH hf;clear hu hx hf;have hw1:=zzV u.funcs.length (by omega)
 have hw2:=zzV u.funs.length (by omega)
 have E:Hid (zl u.funcs.length u.funs x=true):=zzH (by unfold zl;rw [if_neg h4,if_neg h5,if_neg h9,if_neg (by omega),if_neg (by omega),if_neg h24,if_neg h31,if_neg (by omega)]);have t5:(x.op==5)=false:=zzB.2 h5;have t9:(x.op==9)=false:=zzB.2 h9;have t15:(x.op==15)=false:=zzB.2 h15;have t18:(x.op==18)=false:=zzB.2 h18;have t19:(x.op==19)=false:=zzB.2 h19;have t20:(x.op==20)=false:=zzB.2 h20;have t21:(x.op==21)=false:=zzB.2 h21;have t24:(x.op==24)=false:=zzB.2 h24;have t31:(x.op==31)=false:=zzB.2 h31;have t16:(x.op==16)=false:=zzB.2 h16;have t17:(x.op==17)=false:=zzB.2 h17;have t32:(x.op==32)=false:=zzB.2 h32;have t33:(x.op==33)=false:=zzB.2 h33;have t4:(x.op==4)=false:=zzB.2 h4;clear h5 h9 h15 h18 h19 h20 h21 h24 h31 h16 h17 h32 h33 h4;go_in;go_wp2;go_ret;exact⟨zn E.out.symm,zzR _ _⟩
theorem zrG (B:Nat) (u:RUnit) (lo' fo go' co':zzA) (lc fc gc' cc':Nat) (b o:Nat) (x:RIns) (so co go:zzA) (sc cc gc:Nat) (w:World) (hu:UBox w B u lo' fo go' co' lc fc gc' cc') (hl:u.funcs.length<=9223372036854775807) (hl2:u.funs.length<=9223372036854775807) (hf:SlAt w 3 zbA go' u.funs) (hx:IBox w b o x so co go sc cc gc) (hop:x.op=4):
  Calls Tryz.prog 71 #[.pointer (some ⟨B,0,none⟩),.pointer (some ⟨b,o,none⟩)] w fun e w'=>e= .returned (.bool (zl u.funcs.length u.funs x))/\Below w.heap.size w w':=by
 have c0:=hx.c0;have c3:=hx.c3;have c5:=hx.c5;have b3:=hu.c3;have b4:=hu.c4;have r1:=hx.rn;have r2:=hx.rsrc;obtain⟨r1a,r1b⟩:=r1;have HF:=zzH hf;clear hu hx hf;have hw1:=zzV u.funcs.length (by omega)
 have hw2:=zzV u.funs.length (by omega)
 have E:Hid (zl u.funcs.length u.funs x=(wi x.n 0 ((u.funs.length:Int)-1)&&(match u.funs[x.n.toNat]? with
   |some f=>decide ((x.src.length:Int)=f.free)
   |none=>false))):=zzH (by unfold zl;rw [hop];rfl)
 rw [hop]at c0;clear hop
 cases hw:wi x.n 0 ((u.funs.length:Int)-1)with
 |false=>
  have E2:Hid (zl u.funcs.length u.funs x=false):=zzH (by rw [E.out,hw];rfl)
  have hwr: ∀wx,Calls Tryz.prog 110 #[.int .i64 x.n,.int .i64 0,.int .i64 ((u.funs.length:Int)-1)] wx fun e w'=>e= .returned (.bool false)/\w'=wx:=fun wx=>by
   have:=zO x.n 0 ((u.funs.length:Int)-1) wx;rw [hw]at this;exact zz57
  clear hw E;go_in;go_wp2_with fail;go_quiet ((go_at_call 110;exact zze (hwr _)));go_wp2;go_ret;exact⟨zn E2.out.symm,zP (zzR _ _) _⟩
 |true=>
  have hr:0<=x.n/\x.n<=(u.funs.length:Int)-1:=by
   unfold wi at hw;rw [zzq6,zzq7,zzq7]at hw;exact hw
  obtain⟨m,hm⟩:=zzJ hr.1;have hml:m<u.funs.length:=by omega
  obtain⟨b2,off,hao,hb2,q0,q1,q2,_,_,_⟩:=HF.out.fn hml;subst hao
  have E2:Hid (zl u.funcs.length u.funs x=decide ((x.src.length:Int)=u.funs[m].free)):=zzH (by
   rw [E.out,hw,hm];have:u.funs[(((m:Nat):Int)).toNat]?=some u.funs[m]:=by rw [zzq16];exact zzq11 hml
   rw [this];rfl)
  have hwr: ∀wx,Calls Tryz.prog 110 #[.int .i64 (m:Int),.int .i64 0,.int .i64 ((u.funs.length:Int)-1)] wx fun e w'=>e= .returned (.bool true)/\w'=wx:=fun wx=>by
   have:=zO (m:Int) 0 ((u.funs.length:Int)-1) wx;rw [<-hm,hw]at this;rw [<-hm];exact zz57
  rw [hm]at c5;clear hw hr E r1a r1b;generalize u.funs[m].free=z at *;generalize x.n=xn at *;by_cases hz:(x.src.length:Int)=z
  ·have E3:Hid (zl u.funcs.length u.funs x=true):=zzH (by rw [E2.out,decide_eq_true hz])
   have t:((x.src.length:Int)==z)=true:=by rw [hz];exact beq_self_eq_true _
   exact zz56
  ·have E3:Hid (zl u.funcs.length u.funs x=false):=zzH (by rw [E2.out,decide_eq_false hz])
   have t:((x.src.length:Int)==z)=false:=zzB.2 hz;exact zz56
theorem zne (B:Nat) (u:RUnit) (lo' fo go' co':zzA) (lc fc gc' cc':Nat) (b o:Nat) (x:RIns) (so co go:zzA) (sc cc gc:Nat) (w:World) (hu:UBox w B u lo' fo go' co' lc fc gc' cc') (hl:u.funcs.length<=9223372036854775807) (hl2:u.funs.length<=9223372036854775807) (hf:SlAt w 3 zbA go' u.funs) (hx:IBox w b o x so co go sc cc gc):
  Calls Tryz.prog 71 #[.pointer (some ⟨B,0,none⟩),.pointer (some ⟨b,o,none⟩)] w fun e w'=>e= .returned (.bool (zl u.funcs.length u.funs x))/\Below w.heap.size w w':=by
 by_cases h5:x.op=5
 ·exact zrt B u lo' fo go' co' lc fc gc' cc' b o x so co go sc cc gc w hu hl hl2 hf hx h5
 by_cases h9:x.op=9
 ·exact zrD B u lo' fo go' co' lc fc gc' cc' b o x so co go sc cc gc w hu hl hl2 hf hx h9
 by_cases h15:x.op=15
 ·exact zpq B u lo' fo go' co' lc fc gc' cc' b o x so co go sc cc gc w hu hl hl2 hf hx h15
 by_cases h18:x.op=18
 ·exact zpV B u lo' fo go' co' lc fc gc' cc' b o x so co go sc cc gc w hu hl hl2 hf hx h18
 by_cases h19:x.op=19
 ·exact zoP B u lo' fo go' co' lc fc gc' cc' b o x so co go sc cc gc w hu hl hl2 hf hx h19
 by_cases h20:x.op=20
 ·exact zo1 B u lo' fo go' co' lc fc gc' cc' b o x so co go sc cc gc w hu hl hl2 hf hx h20
 by_cases h21:x.op=21
 ·exact zoc B u lo' fo go' co' lc fc gc' cc' b o x so co go sc cc gc w hu hl hl2 hf hx h21
 by_cases h24:x.op=24
 ·exact zo8 B u lo' fo go' co' lc fc gc' cc' b o x so co go sc cc gc w hu hl hl2 hf hx h24
 by_cases h31:x.op=31
 ·exact zo3 B u lo' fo go' co' lc fc gc' cc' b o x so co go sc cc gc w hu hl hl2 hf hx h31
 by_cases h16:x.op=16
 ·exact zpg B u lo' fo go' co' lc fc gc' cc' b o x so co go sc cc gc w hu hl hl2 hf hx h16
 by_cases h17:x.op=17
 ·exact zpx B u lo' fo go' co' lc fc gc' cc' b o x so co go sc cc gc w hu hl hl2 hf hx h17
 by_cases h32:x.op=32
 ·exact zn5 B u lo' fo go' co' lc fc gc' cc' b o x so co go sc cc gc w hu hl hl2 hf hx h32
 by_cases h33:x.op=33
 ·exact zpw B u lo' fo go' co' lc fc gc' cc' b o x so co go sc cc gc w hu hl hl2 hf hx h33
 by_cases h4:x.op=4
 ·exact zrG B u lo' fo go' co' lc fc gc' cc' b o x so co go sc cc gc w hu hl hl2 hf hx h4
 exact zlI B u lo' fo go' co' lc fc gc' cc' b o x so co go sc cc gc w hu hl hl2 hf hx h5 h9 h15 h18 h19 h20 h21 h24 h31 h16 h17 h32 h33 h4
def zhm (code:List RIns) (i:Int):Int:=((code[i.toNat]?).map RIns.op).getD 0
def zbT (code:List RIns) (i:Nat) (x:RIns) (h:Nat):Bool:=
 if x.op=39\/x.op=40 then wi x.to 0 ((code.length:Int)-1)&&(zhm code x.to==37)
 else x.cases.all (fun c=>wi c.to ((i:Int)+1) ((code.length:Int)-1))&&(!zm h 64||wi x.to ((i:Int)+1) ((code.length:Int)-1))
theorem zk6 (B:Nat) (u:RUnit) (lo fo go:zzA) (lc fc gc cc:Nat) (bc oc:Nat) (i:Nat) (h l' h':Int) (so co' go':zzA) (sc cc' gc':Nat) (w:World) (hu:UBox w B u lo fo go (some ⟨bc,oc,none⟩) lc fc gc cc) (hcode:SlAt w 10 (InsR w) (some ⟨bc,oc,none⟩) u.code) (hl:u.code.length<=9223372036854775807) (hi:i<u.code.length)
  (x:RIns) (hx:IBox w bc (oc+i*10) x so co' go' sc cc' gc') (hop:x.op=39\/x.op=40) (hn:Nat):
  Calls Tryz.prog 74 #[.pointer (some ⟨B,0,none⟩),.int .i64 i,.agg #[.int .i64 h,.int .i64 l',.int .i64 h']] w fun e w'=>e= .returned (.bool (zbT u.code i x hn))/\Below w.heap.size w w':=by
 have hbe:Below w.heap.size w (w.alloc (.cells #[.int .i64 h,.int .i64 l',.int .i64 h'] 131)):=zzE _ _;have b5:=(hu.below hbe).c5;have hxb:=hx.below hbe;have c0:=hxb.c0;have c4:=hxb.c4;have hBl:=(hu.below hbe).lt;have hbl:=hxb.lt;have hw1:=zzV u.code.length (by omega)
 have hwc:=fun wx=>zO x.to 0 ((u.code.length:Int)-1) wx
 have HBE:=zzH hbe;have E0:Hid (zbT u.code i x hn=(wi x.to 0 ((u.code.length:Int)-1)&&(zhm u.code x.to==37))):=zzH (by unfold zbT;rw [if_pos hop]);have HCO:=zzH hcode;clear hu hx hxb hcode;generalize hxo:x.op=xo at *;have hE: ∀j,j<u.code.length->True:=fun _ _=>trivial
 clear hE hxo;by_cases hin:0<=x.to/\x.to<=(u.code.length:Int)-1
 ·have hwi:=zev hin.1 hin.2
  rw [hwi]at hwc;obtain⟨m,hm⟩: ∃m:Nat,x.to=(m:Int):=⟨x.to.toNat,by omega⟩;have hml:m<u.code.length:=by omega
  obtain⟨b2,o2,so2,co2,go2,sc2,cc2,gc2,hao,hmx⟩:=zfd HCO.out hml;obtain⟨rfl,rfl⟩:bc=b2/\oc=o2:=by injection hao with h;injection h with h1 h2;exact⟨h1,h2⟩
  have d0:=(hmx.below HBE.out).c0;have hop2:zhm u.code x.to=(u.code[m]).op:=by unfold zhm;rw [hm,zzq16,zzq11 hml];rfl
  rw [hwi,hop2,zzq15]at E0;rw [hm]at hwc c4;generalize(u.code[m]).op=oo at *;have E1:=zzH E0.out;clear hmx hao hin hwi hop2 hm HCO E0;generalize zbT u.code i x hn=r at *
  cases hq:(oo==37)
  all_goals
   rw [hq]at E1;rcases hop with rfl|rfl
   all_goals
    go_in;go_wp2_with fail;go_quiet (fail);have HQ:=zzH (zP HBE.out nq);have b5':((w.alloc (.cells #[.int .i64 h,.int .i64 l',.int .i64 h'] 131)).drewN nq).cell? ⟨B,5,none⟩=some (.slice (some ⟨bc,oc,none⟩) u.code.length cc):=b5;have c0':((w.alloc (.cells #[.int .i64 h,.int .i64 l',.int .i64 h'] 131)).drewN nq).cell? ⟨bc,oc+i*10,none⟩=_:=c0;have c4':((w.alloc (.cells #[.int .i64 h,.int .i64 l',.int .i64 h'] 131)).drewN nq).cell? ⟨bc,oc+i*10+4,none⟩=_:=c4;have d0':((w.alloc (.cells #[.int .i64 h,.int .i64 l',.int .i64 h'] 131)).drewN nq).cell? ⟨bc,oc+m*10,none⟩=_:=d0;clear b5 c0 c4 d0 HBE;generalize(w.alloc (.cells #[.int .i64 h,.int .i64 l',.int .i64 h'] 131)).drewN nq=W1 at *;go_wp2_with fail;go_quiet ((go_at_call 110;exact zze ((hwc _).mono fun _ _ ⟨a,b⟩=>⟨a,b.symm⟩)));go_wp2;go_ret;exact⟨zn E1.out.symm,zP HQ.out _⟩
 ·have hwi:=zdK hin
  rw [hwi]at hwc;rw [hwi,Bool.false_and]at E0;have E1:=zzH E0.out;clear hin hwi HCO E0;generalize zbT u.code i x hn=r at *;rcases hop with rfl|rfl
  all_goals
   go_in;go_wp2_with fail;go_quiet (fail);have HQ:=zzH (zP HBE.out nq);have b5':((w.alloc (.cells #[.int .i64 h,.int .i64 l',.int .i64 h'] 131)).drewN nq).cell? ⟨B,5,none⟩=some (.slice (some ⟨bc,oc,none⟩) u.code.length cc):=b5;have c0':((w.alloc (.cells #[.int .i64 h,.int .i64 l',.int .i64 h'] 131)).drewN nq).cell? ⟨bc,oc+i*10,none⟩=_:=c0;have c4':((w.alloc (.cells #[.int .i64 h,.int .i64 l',.int .i64 h'] 131)).drewN nq).cell? ⟨bc,oc+i*10+4,none⟩=_:=c4;clear b5 c0 c4 HBE;generalize(w.alloc (.cells #[.int .i64 h,.int .i64 l',.int .i64 h'] 131)).drewN nq=W1 at *;go_wp2_with fail;go_quiet ((go_at_call 110;exact zze ((hwc _).mono fun _ _ ⟨a,b⟩=>⟨a,b.symm⟩)));go_wp2;go_ret;exact⟨zn E1.out.symm,zP HQ.out _⟩
theorem zld (B:Nat) (u:RUnit) (lo fo go:zzA) (lc fc gc cc:Nat) (bc oc:Nat) (i:Nat) (hn:Nat) (l' h':Int) (so co' go':zzA) (sc cc' gc':Nat) (w:World) (hu:UBox w B u lo fo go (some ⟨bc,oc,none⟩) lc fc gc cc) (hl:u.code.length<=9223372036854775807) (hi:i<u.code.length)
  (x:RIns) (hx:IBox w bc (oc+i*10) x so co' go' sc cc' gc') (hop: ¬(x.op=39\/x.op=40)) (hh:hn<1000):
  Calls Tryz.prog 74 #[.pointer (some ⟨B,0,none⟩),.int .i64 i,.agg #[.int .i64 hn,.int .i64 l',.int .i64 h']] w fun e w'=>e= .returned (.bool (zbT u.code i x hn))/\Below w.heap.size w w':=by
 have hbe:Below w.heap.size w (w.alloc (.cells #[.int .i64 hn,.int .i64 l',.int .i64 h'] 131)):=zzE _ _;have hbr:=zzF w (.cells #[.int .i64 hn,.int .i64 l',.int .i64 h'] 131);have b5:=(hu.below hbe).c5;have hxb:=hx.below hbe;have c0:=hxb.c0;have hBl:=(hu.below hbe).lt;have hbl:=hxb.lt;have rc:=hxb.rcases;have t39:(x.op==39)=false:=zzB.2 (fun h=>hop (.inl h));have t40:(x.op==40)=false:=zzB.2 (fun h=>hop (.inr h));have hw1:=zzV u.code.length (by omega)
 have hwc:=fun n wx=>zO n ((i:Int)+1) ((u.code.length:Int)-1) wx
 refine zzK3 hbe hbr hxb fun HBE HBR HX=>?_;have ha:bits .and .i64 (hn:Int) 64=((hn&&&64:Nat):Int):=zhv hn 64 (by omega) (by omega)
 have hab:((((hn&&&64:Nat):Int))==0)= !zm hn 64:=by
  unfold zm;by_cases c:hn&&&64=0
  ·rw [c];rfl
  ·rw [decide_eq_true c];show _=false;rw [zzq3];omega
 have E0:Hid (zbT u.code i x hn=(x.cases.all (fun c=>wi c.to ((i:Int)+1) ((u.code.length:Int)-1))&&(!zm hn 64||wi x.to ((i:Int)+1) ((u.code.length:Int)-1)))):=zzH (by unfold zbT;rw [if_neg hop]);have HAB:=zzH hab;have HI:Hid (x.cases.all (fun c=>wi c.to ((i:Int)+1) ((u.code.length:Int)-1))=(x.cases.drop 0).all (fun c=>wi c.to ((i:Int)+1) ((u.code.length:Int)-1))):=zzH rfl;clear hu hx hxb hop hab hbr hbe;generalize zbT u.code i x hn=r at *;go_in;go_wp2_with fail;go_quiet (fail);have HQ:=zzH (zP HBE.out nq);have HQ2:Hid (Below (w.alloc (.cells #[.int .i64 hn,.int .i64 l',.int .i64 h'] 131)).heap.size (w.alloc (.cells #[.int .i64 hn,.int .i64 l',.int .i64 h'] 131)) ((w.alloc (.cells #[.int .i64 hn,.int .i64 l',.int .i64 h'] 131)).drewN nq)):=zzH (zP (zzR _ _) nq);have HX1:=zzH (HX.out.below HQ2.out);have HR1:Hid (((w.alloc (.cells #[.int .i64 hn,.int .i64 l',.int .i64 h'] 131)).drewN nq).heap[w.heap.size]?=some (.cells #[.int .i64 hn,.int .i64 l',.int .i64 h'] 131 (0,0))):=zzH HBR.out
 clear b5 c0 HBE HQ2 HX HBR hBl hbl;generalize(w.alloc (.cells #[.int .i64 hn,.int .i64 l',.int .i64 h'] 131)).drewN nq=W1 at *;have c0:=HX1.out.c0;have c8:=HX1.out.c8;have hwi2:IntKind.i64.wrap ((i:Int)+1)=(i:Int)+1:=by rw [zzq5];omega
 go_wp2_with fail;go_loopw [55] (fun j wr=> ∃k:Nat,k<=x.cases.length/\j= .int .i64 k/\Hid (x.cases.all (fun c=>wi c.to ((i:Int)+1) ((u.code.length:Int)-1))=(x.cases.drop k).all (fun c=>wi c.to ((i:Int)+1) ((u.code.length:Int)-1)))/\Below W1.heap.size W1 wr) (fun j _=>x.cases.length-(intOf j).toNat)
 case atStart=>exact⟨0,zzZ _,rfl,HI,zzR _ _⟩
 case round=>
  obtain⟨k,hk,rfl,HK,hBw⟩:=hrel;rename World=>wr
  by_cases hlt:k<x.cases.length
  ·obtain⟨b1,off1,hco,hb1,q0,q1,rl,rt⟩:=(HX1.out.below hBw).cases.case hlt
   subst hco;have HST:Hid ((x.cases.drop k).all (fun c=>wi c.to ((i:Int)+1) ((u.code.length:Int)-1))=(wi x.cases[k].to ((i:Int)+1) ((u.code.length:Int)-1)&&(x.cases.drop (k+1)).all (fun c=>wi c.to ((i:Int)+1) ((u.code.length:Int)-1)))):=zzH (by rw [List.drop_eq_getElem_cons hlt,List.all_cons]);have hwc1:=fun wx=>hwc x.cases[k].to wx
   generalize wi x.cases[k].to ((i:Int)+1) ((u.code.length:Int)-1)=q at *;generalize x.cases[k].to=ct at *;generalize x.cases[k].lit=cl at *;have HBA:Hid (Below W1.heap.size W1 (wr.alloc (.cells #[.int .i64 cl,.int .i64 ct] 119))):=zzH (hBw.alloc hBw.size _)
   cases q with
   |true=>
    have HK2:Hid (x.cases.all (fun c=>wi c.to ((i:Int)+1) ((u.code.length:Int)-1))=(x.cases.drop (k+1)).all (fun c=>wi c.to ((i:Int)+1) ((u.code.length:Int)-1))):=zzH (by rw [HK.out,HST.out,zzq15]);go_wp2_with (go_at_call 110;refine(hwc1 _).mono ?_;rintro e w1 ⟨rfl,rfl⟩);go_roundw
    case rel=>exact⟨k+1,by omega,by go_num,HK2,HBA.out⟩
    case measure=>simp [intOf];omega
   |false=>
    have E:Hid (r=false):=zzH (by rw [E0.out,HK.out,HST.out];rfl);go_wp2_with (go_at_call 110;refine(hwc1 _).mono ?_;rintro e w1 ⟨rfl,rfl⟩);go_ret;exact⟨zn E.out.symm,HQ.out.trans (HBA.out.mono HQ.out.size)⟩
  ·have EK:Hid (r=(!zm hn 64||wi x.to ((i:Int)+1) ((u.code.length:Int)-1))):=zzH (by rw [E0.out,HK.out,zzq8 (by omega)];rfl)
   have hr:=(hBw.block w.heap.size (zc HR1.out)).trans HR1.out;have n0:wr.cell? ⟨w.heap.size,0,none⟩=some (.int .i64 hn):=by rw [zzq2 _ _ _ _ _ _ hr];rfl
   have c4:=(HX1.out.below hBw).c4;have hwc1:=fun wx=>hwc x.to wx
   have hab:=HAB.out;generalize wi x.to ((i:Int)+1) ((u.code.length:Int)-1)=q at *;generalize zm hn 64=hb at *;clear hr;generalize hn&&&64=z at *
   cases hb with
   |false=>
    have E:Hid (r=true):=zzH (by rw [EK.out];rfl);go_wp2;go_ret;exact⟨zn E.out.symm,HQ.out.trans (hBw.mono HQ.out.size)⟩
   |true=>
    have E:Hid (r=q):=zzH (by rw [EK.out];rfl);go_wp2_with (go_at_call 110;refine(hwc1 _).mono ?_;rintro e w1 ⟨rfl,rfl⟩);go_ret;exact⟨zn E.out.symm,HQ.out.trans (hBw.mono HQ.out.size)⟩
theorem zlw (B:Nat) (u:RUnit) (lo fo go:zzA) (lc fc gc cc:Nat) (bc oc:Nat) (i:Nat) (hn:Nat) (l' h':Int) (so co' go':zzA) (sc cc' gc':Nat) (w:World) (hu:UBox w B u lo fo go (some ⟨bc,oc,none⟩) lc fc gc cc) (hcode:SlAt w 10 (InsR w) (some ⟨bc,oc,none⟩) u.code) (hl:u.code.length<=9223372036854775807) (hi:i<u.code.length)
  (x:RIns) (hx:IBox w bc (oc+i*10) x so co' go' sc cc' gc') (hh:hn<1000):
  Calls Tryz.prog 74 #[.pointer (some ⟨B,0,none⟩),.int .i64 i,.agg #[.int .i64 hn,.int .i64 l',.int .i64 h']] w fun e w'=>e= .returned (.bool (zbT u.code i x hn))/\Below w.heap.size w w':=by
 by_cases hop:x.op=39\/x.op=40
 ·exact zk6 B u lo fo go lc fc gc cc bc oc i hn l' h' so co' go' sc cc' gc' w hu hcode hl hi x hx hop hn
 ·exact zld B u lo fo go lc fc gc cc bc oc i hn l' h' so co' go' sc cc' gc' w hu hl hi x hx hop hh
def Stays (w w':World):Prop:= ∀(k:Nat) (cs:Array Value) (t:TypeId) (fr:Nat × Nat),w.heap[k]?=some (.cells cs t fr)->t≠5->t≠89->w'.heap[k]?=some (.cells cs t fr)
theorem Stays.refl (w:World):Stays w w:=fun _ _ _ _ h _ _=>h
theorem Stays.trans {a b c:World} (h:Stays a b) (k:Stays b c):Stays a c:=fun i cs t fr hi h1 h2=>k i cs t fr (h i cs t fr hi h1 h2) h1 h2
theorem Stays.alloc {a b:World} (h:Stays a b) (o:Obj):Stays a (b.alloc o):=fun i cs t fr hi h1 h2=>by
 have:=h i cs t fr hi h1 h2;exact(Below.heap_alloc b o i (zc this)).trans this
theorem Stays.below {a b c:World} (h:Stays a b) (hb:Below b.heap.size b c):Stays a c:=fun i cs t fr hi h1 h2=>by
 have:=h i cs t fr hi h1 h2;exact(hb.block i (zc this)).trans this
theorem Stays.grown {a b c:World} {B size n:Nat} {bv:Value} {xs:List Value} (h:Stays a b) (ho:b.ownsRow B 5 size bv n xs) (hg:b.grownBy c bv.ownBlock):Stays a c:=fun i cs t fr hi h1 h2=>by
 exact zz73
theorem Stays.store {a b:World} {r:Nat} {cs0:Array Value} {fr0:Nat × Nat} (h:Stays a b) (hr:b.heap[r]?=some (.cells cs0 89 fr0)) (v:Value):Stays a (b.setCell ⟨r,0,none⟩ v):=fun i cs t fr hi h1 h2=>by
 exact zz74
def zo (l:List UInt8):List Value:=l.map fun b=>Value.int .u8 (b.toNat:Int)
theorem zeg (a b:List UInt8):zo (a++b)=zo a++zo b:=by simp [zo]
def WrAt (B r:Nat) (l:List UInt8) (w:World):Prop:=B<=r/\B<=w.heap.size/\ ∃bv,w.heap[r]?=some (.cells #[bv] 89 (0,0))/\w.ownsRow B 5 1 bv l.length (zo l)/\bv.ownBlock≠some r
theorem zdw:(Tryz.prog.info? 5).map (fun i=>(i.zero,i.size,i.bytes))=some (some (.int .u8 0),1,1):=by kernel_rfl
def zb3:Nat->Nat->List UInt8
 |0,_=>[]
 |f+1,n=>if n<128 then [UInt8.ofNat n]else UInt8.ofNat (n%128+128)::zb3 f (n/128)
def zf (n:Nat):List UInt8:=zb3 10 n
theorem zjd: ∀(f n:Nat),(zb3 f n).length<=f
 |0,_=>zzZ _
 |f+1,n=>by
  unfold zb3;split
  ·simp
  ·have:=zjd f (n/128);simp;omega
theorem ztO (m:Nat):bits .or .u8 ((m:Int)%256) 128=(((UInt8.ofNat (m%128+128)).toNat:Nat):Int):=by
 have h1:(BitVec.ofInt 8 ((m:Int)%256)).toNat=m%256:=by
  have e:((m:Int)%256)=((m%256:Nat):Int):=by omega
  rw [e,BitVec.ofInt_natCast,BitVec.toNat_ofNat];omega
 have h2:(BitVec.ofInt 8 128).toNat=128:=by decide
 have hx:m%256 |||128=m%128+128:=by
  have h:=Nat.two_pow_add_eq_or_of_lt (i:=7) (b:=m%128) (by omega) 1;have e:m%256=m%128\/m%256=128+m%128:=by omega
  rcases e with e|e
  ·rw [e,Nat.or_comm];rw [show(2^7*1:Nat)=128 by rfl]at h;omega
  ·rw [show(2^7*1:Nat)=128 by rfl]at h
   rw [e,h,Nat.or_comm 128,Nat.or_assoc,Nat.or_self,Nat.or_comm,<-h];omega
 show IntKind.u8.wrap ((BitVec.ofInt 8 ((m:Int)%256) |||BitVec.ofInt 8 128).toNat:Int)=_;rw [BitVec.toNat_or,h1,h2,hx,IntKind.wrap_u8,UInt8.toNat_ofNat'];omega
theorem zmi (m:Nat):((m:Int)%256)=((UInt8.ofNat m).toNat:Int):=by rw [UInt8.toNat_ofNat'];omega
theorem zku {B r:Nat} {l:List UInt8} {x:UInt8} {w:World} {bv v':Value} (hBr:B<=r) (hBw:B<=w.heap.size) (hb:w.heap[r]?=some (.cells #[bv] 89 (0,0))) (ho:w.ownsRow B 5 1 v' (l.length+1) (zo l++ [.int .u8 (x.toNat:Int)])) (hne:v'.ownBlock≠some r):
  WrAt B r (l++ [x]) (w.setCell ⟨r,0,none⟩ v'):=by
 refine⟨hBr,by simpa [World.setCell] using hBw,v',?_,?_,hne⟩
 ·simp [World.setCell,hb,Array.getElem?_modify]
 ·have e:zo (l++ [x])=zo l++ [.int .u8 (x.toNat:Int)]:=by rw [zeg];rfl
  rw [e,zzq1];exact ho.kept ⟨rfl,rfl,rfl,by simp [World.setCell],fun k _ hk=>Below.heap_setCell _ _ _ _ (fun e=>hk (by rw [e]))⟩ (.inr (fun e=>hne e))
theorem zdm {w:World} {B:Nat} {e:TypeId} {size:Nat} {v:Value} {n:Nat} {xs:List Value} (h:w.ownsRow B e size v n xs): ∃ao cap,v= .slice ao n cap:=by
 exact zz16
theorem zbt (B r:Nat) (l:List UInt8) (n:Int) (w:World) (h:WrAt B r l w) (h0:0<=n) (h1:n<=9223372036854775807) (hl:l.length<=70368744177664):
  Calls Tryz.prog 34 #[.pointer (some ⟨r,0,none⟩),.int .i64 n] w fun e w'=>e= .returned (.tuple #[])/\WrAt B r (l++zf n.toNat) w'/\Below B w w'/\Stays w w':=by
 obtain⟨i0,hi,hz0,hz1,hz2⟩:=info_parts zdw;obtain⟨m0,rfl⟩:=zzJ h0;rw [zzq16];have HT:Hid (l++zf m0=l++zb3 10 m0):=zzH rfl;have HBL:=zzH h.2.1;go_in;go_wp2_with fail;go_loopw [4] (fun uv wr=> ∃(m f:Nat) (l':List UInt8),uv= .int .u64 m/\m<128^f*128/\Hid (l++zf m0=l'++zb3 (f+1) m)/\f<=9/\l'.length<=l.length+9-f/\Hid (WrAt B r l' wr)/\Below B w wr/\Hid (Stays w wr)) (fun uv _=>(intOf uv).toNat)
 case atStart=>exact⟨m0,9,l,by go_num,by omega,HT,zzL _,by omega,zzH h,zzR _ _,zzH (Stays.refl _)⟩
 case round=>
  obtain⟨m,f,l',rfl,hm,HV,hf,hll,HW,hB,HST⟩:=hrel;rename World=>wr
  obtain⟨hBr,hBw,bv,hbk,hown,hne⟩:=HW.out;have c0:wr.cell? ⟨r,0,none⟩=some bv:=by rw [zzq2 _ _ _ _ _ _ hbk];rfl
  have f0:wr.frozen? ⟨r,0,none⟩=false:=Lib.frozen_of_heap hbk 0;have hrl:=zc hbk;by_cases hbig:128<=m
  ·have hf0:f≠0:=fun e=>by subst e;simp at hm;omega
   obtain⟨f',rfl⟩:=Nat.exists_eq_succ_of_ne_zero hf0;have hor:=ztO m
   have HV2:Hid (l++zf m0=(l'++ [UInt8.ofNat (m%128+128)])++zb3 (f'+1) (m/128)):=zzH (by
    rw [HV.out];conv=>lhs;rw [zb3,if_neg (by omega)]
    simp)
   generalize UInt8.ofNat (m%128+128)=x at *;go_wp2_with (at_builtin;refine wpList_append_own_at _ rfl (.tmp 15) (.tmp 19) 65 rfl B 5 i0 (.int .u8 0) 1 1 Tryz.underlying65 hi hz0 hz1 hz2 rfl (by decide) bv l'.length (zo l') rfl (hown.alloc _) ⟨wr.heap.size,0,none⟩ 1 1 [.int .u8 (x.toNat:Int)] rfl rfl (cell_one_new _ _ _) (ints_oneCell .u8 [(x.toNat:Int)]) (by unfold maxLen;omega) (by omega) (by simp;omega) ?_);intro v' w1 hown' hgrow hnil hloc
   have hbk1:w1.heap[r]?=some (.cells #[bv] 89 (0,0)):=by
    exact zz75
   have k0:w1.cell? ⟨r,0,none⟩=some bv:=by rw [zzq2 _ _ _ _ _ _ hbk1];rfl
   have k1:w1.frozen? ⟨r,0,none⟩=false:=Lib.frozen_of_heap hbk1 0;have hB1:Below B w w1:=(hB.alloc hBw _).grown hgrow (by simp;omega) (fun k hk=>(hown.lt k hk).1)
   have hne':v'.ownBlock≠some r:=by
    exact zz76
   have HW1:Hid (WrAt B r (l'++ [x]) (w1.setCell ⟨r,0,none⟩ v')):=zzH (zku hBr (zzY hBw (by have:=hgrow.size;simp at this;omega)) hbk1 hown' hne');have HST1:Hid (Stays w (w1.setCell ⟨r,0,none⟩ v')):=zzH (((HST.out.alloc _).grown (hown.alloc _) hgrow).store hbk1 v');obtain⟨ao',cap',rfl⟩:=zdm hown';clear hown hbk hgrow hown' hbk1 HW;go_wp2_with fail;go_roundw
   case rel=>exact⟨m/128,f',l'++ [x],by go_num,by rw [Nat.pow_succ]at hm;omega,HV2,by omega,by rw [zzq1];simp;omega,HW1,hB1.setCell (p:=⟨r,0,none⟩) hBr _,HST1⟩
   case measure=>simp [intOf];omega
  ·have hby:Hid ((m:Int)=((UInt8.ofNat m).toNat:Int)):=zzH (by rw [UInt8.toNat_ofNat'];omega)
   have HV2:Hid (l++zf m0=l'++ [UInt8.ofNat m]):=zzH (by rw [HV.out,zb3,if_pos (by omega)]);generalize UInt8.ofNat m=x at *;go_wp2_with (at_builtin;refine wpList_append_own_at _ rfl (.tmp 27) (.tmp 30) 65 rfl B 5 i0 (.int .u8 0) 1 1 Tryz.underlying65 hi hz0 hz1 hz2 rfl (by decide) bv l'.length (zo l') rfl (hown.alloc _) ⟨wr.heap.size,0,none⟩ 1 1 [.int .u8 (m:Int)] rfl rfl (cell_one_new _ _ _) (ints_oneCell .u8 [(m:Int)]) (by unfold maxLen;omega) (by omega) (by simp;omega) ?_);intro v' w1 hown' hgrow hnil hloc;rw [hby.out]at hown'
   have hbk1:w1.heap[r]?=some (.cells #[bv] 89 (0,0)):=by
    exact zz75
   have k0:w1.cell? ⟨r,0,none⟩=some bv:=by rw [zzq2 _ _ _ _ _ _ hbk1];rfl
   have k1:w1.frozen? ⟨r,0,none⟩=false:=Lib.frozen_of_heap hbk1 0;have hB1:Below B w w1:=(hB.alloc hBw _).grown hgrow (by simp;omega) (fun k hk=>(hown.lt k hk).1)
   have hne':v'.ownBlock≠some r:=by
    exact zz76
   have HW1:Hid (WrAt B r (l'++ [x]) (w1.setCell ⟨r,0,none⟩ v')):=zzH (zku hBr (zzY hBw (by have:=hgrow.size;simp at this;omega)) hbk1 hown' hne');have HST1:Hid (Stays w (w1.setCell ⟨r,0,none⟩ v')):=zzH (((HST.out.alloc _).grown (hown.alloc _) hgrow).store hbk1 v');obtain⟨ao',cap',rfl⟩:=zdm hown';clear hown hbk hgrow hown' hbk1 HW;go_wp2_with fail;go_end0;exact⟨rfl,by rw [HV2.out];exact HW1.out,hB1.setCell (p:=⟨r,0,none⟩) hBr _,HST1.out⟩
end Go.Proofs.YtijekmeocadkeaaGreatDoor
