import Derived.Test.YthajedcbgnloeaaGreatDoorRows
import Derived.Test.YthajedcbgnloeaaGreatDoorW01
namespace Go.Proofs.YthajedcbgnloeaaGreatDoor
open Go.RowKit
set_option linter.unusedVariables false
set_option linter.unusedSimpArgs false
set_option maxRecDepth 100000
set_option maxHeartbeats 0
structure IBox (w:World) (b o:Nat) (x:RIns) (so co go:Option Addr) (sc cc gc:Nat):Prop where
 lt:b<w.heap.size
 c0:w.cell? ⟨b,o,none⟩=some (.int .i64 x.op)
 c1:w.cell? ⟨b,o+1,none⟩=some (.int .i64 x.dst.kind)
 c2:w.cell? ⟨b,o+2,none⟩=some (.int .i64 x.dst.n)
 c3:w.cell? ⟨b,o+3,none⟩=some (.slice so x.src.length sc)
 c4:w.cell? ⟨b,o+4,none⟩=some (.int .i64 x.to)
 c5:w.cell? ⟨b,o+5,none⟩=some (.int .i64 x.n)
 c6:w.cell? ⟨b,o+6,none⟩=some (.int .i64 x.live)
 c7:w.cell? ⟨b,o+7,none⟩=some (.string x.name)
 c8:w.cell? ⟨b,o+8,none⟩=some (.slice co x.cases.length cc)
 c9:w.cell? ⟨b,o+9,none⟩=some (.slice go x.segs.length gc)
 src:SlAt w 2 zeG so x.src
 cases:SlAt w 2 zed co x.cases
 segs:SlAt w 6 zfu go x.segs
 rop:I64 x.op
 rdk:I64 x.dst.kind
 rdn:I64 x.dst.n
 rsrc:x.src.length<=9223372036854775807
 rto:I64 x.to
 rn:I64 x.n
 rlive:I64 x.live
 rname:x.name.size<=9223372036854775807
 rcases:x.cases.length<=9223372036854775807
 rsegs:x.segs.length<=9223372036854775807
theorem IBox.below {w w':World} {b o:Nat} {x:RIns} {so co go:zzA} {sc cc gc:Nat} (h:IBox w b o x so co go sc cc gc) (hb:Below w.heap.size w w'):IBox w' b o x so co go sc cc gc:=
 ⟨zzW h.lt hb.size,(hb.cell (p:=⟨b,o,none⟩) h.lt).trans h.c0,(hb.cell (p:=⟨b,o+1,none⟩) h.lt).trans h.c1,(hb.cell (p:=⟨b,o+2,none⟩) h.lt).trans h.c2,(hb.cell (p:=⟨b,o+3,none⟩) h.lt).trans h.c3,(hb.cell (p:=⟨b,o+4,none⟩) h.lt).trans h.c4,
  (hb.cell (p:=⟨b,o+5,none⟩) h.lt).trans h.c5,(hb.cell (p:=⟨b,o+6,none⟩) h.lt).trans h.c6,(hb.cell (p:=⟨b,o+7,none⟩) h.lt).trans h.c7,(hb.cell (p:=⟨b,o+8,none⟩) h.lt).trans h.c8,(hb.cell (p:=⟨b,o+9,none⟩) h.lt).trans h.c9,
  h.src.mono hb fun _ _ h=>h,h.cases.mono hb fun _ _ h=>h,h.segs.mono hb fun _ _ h=>h,h.rop,h.rdk,h.rdn,h.rsrc,h.rto,h.rn,h.rlive,h.rname,h.rcases,h.rsegs⟩
theorem zdl {w:World} {ao:zzA} {l:List RIns} (h:SlAt w 10 (InsR w) ao l) {k:Nat} (hk:k<l.length): ∃b off so co go sc cc gc,ao=some ⟨b,off,none⟩/\IBox w b (off+k*10) l[k] so co go sc cc gc:=by
 obtain⟨b,off,so,sc,co,cc,go,gc,e,hb,c0,c1,c2,c3,c4,c5,c6,c7,c8,c9,s1,s2,s3,r1,r2,r3,r4,r5,r6,r7,r8,r9,r10⟩:=h.ins hk;exact⟨b,off,so,co,go,sc,cc,gc,e,hb,c0,c1,c2,c3,c4,c5,c6,c7,c8,c9,s1,s2,s3,r1,r2,r3,r4,r5,r6,r7,r8,r9,r10⟩
def zeI (nl:Nat) (x:RIns) (h:Nat):Bool:=if zx h 1=true then !decide (x.dst.kind=3)&&zbh nl x.dst else decide (x.dst.kind=0)&&decide (x.dst.n=0)
def zU (nl:Nat) (x:RIns) (h lo hi:Nat):Bool:=
 zeI nl x h&&(x.src.all (zbh nl)&&(wi x.src.length lo hi&&(wi x.live 0 256&&((zx h 4||x.n==0)&&((zx h 8||x.name.toList.isEmpty)&&((zx h 64||x.to==0)&&((zx h 128||x.live==0)&&((zx h 16||x.cases.length==0)&&(zx h 32||x.segs.length==0)))))))))
theorem zkQ (B:Nat) (u:RUnit) (lo' fo go' co':zzA) (lc fc gc' cc':Nat) (b o:Nat) (x:RIns) (so co go:zzA) (sc cc gc:Nat) (h lo hi:Nat) (w:World) (hu:UBox w B u lo' fo go' co' lc fc gc' cc') (hl:u.lits.length<=9223372036854775807) (hx:IBox w b o x so co go sc cc gc) (h1:h<1000) (h2:lo<1000) (h3:hi<1000):
  Calls Tryz.prog 24 #[.pointer (some ⟨B,0,none⟩),.pointer (some ⟨b,o,none⟩),.agg #[.int .i64 h,.int .i64 lo,.int .i64 hi]] w fun e w'=>e= .returned (.bool (zU u.lits.length x h lo hi))/\Below w.heap.size w w':=by
 have hbe:Below w.heap.size w (w.alloc (.cells #[.int .i64 h,.int .i64 lo,.int .i64 hi] 74)):=zzE _ _;have HU:=zzH (hu.below hbe);have HX:=zzH (hx.below hbe);have hlt:=hx.lt;have hC:(w.alloc (.cells #[.int .i64 h,.int .i64 lo,.int .i64 hi] 74)).heap[w.heap.size]?=some (.cells #[.int .i64 h,.int .i64 lo,.int .i64 hi] 74 (0,0)):=zzF _ _
 clear hu hx;go_in;go_wp2_with fail;generalize w.alloc (.cells #[.int .i64 h,.int .i64 lo,.int .i64 hi] 74)=Wa at *;have HBA:=zzH hbe;generalize hCC:w.heap.size=C at hC ⊢;have hc0:Wa.cell? ⟨C,0,none⟩=some (.int .i64 h):=by rw [zzq0 _ _ _ _ _ _ hC];rfl
 have i1:=HX.out.c1;have i2:=HX.out.c2;have i3:=HX.out.c3;have hs3:=HX.out.rsrc;refine(zeo h 1 _ rfl C _ hc0 (by omega) (by omega)).mono ?_;rintro e w' ⟨rfl,rfl⟩;have HD1:Hid (zx h 1=zx h 1):=zzH rfl;generalize hq1:zx h 1=q1 at *;have HQ1:=zzH hq1;clear hq1;go_upto_if 12 with(fail);go_cut [] (fun wx=>Hid (zeI u.lits.length x h=true)/\Below Wa.heap.size Wa wx)
 case first=>
  cases q1 with
  |true=>
   cases hd2:decide (x.dst.kind=3)with
   |true=>
    have E:Hid (zU u.lits.length x h lo hi=false):=zzH (by unfold zU zeI;rw [HQ1.out,hd2];rfl);have hk:(x.dst.kind==3)=true:=by rw [of_decide_eq_true hd2];rfl
    clear hd2;exact zz6
   |false=>
    have hk:(x.dst.kind==3)=false:=by rw [zzq1];exact of_decide_eq_false hd2
    have hop:=zeu B u lo' fo go' co' lc fc gc' cc' x.dst _ HU.out hl ⟨HX.out.rdk,HX.out.rdn⟩
    cases hq:zbh u.lits.length x.dst with
    |false=>
     have E:Hid (zU u.lits.length x h lo hi=false):=zzH (by unfold zU zeI;rw [HQ1.out,hd2,hq];rfl);rw [hq]at hop;clear hd2 hq;go_wp2_with fail;refine hop.mono ?_;rintro e w5 ⟨rfl,hb5⟩;go_wp2;go_ret;exact⟨zl E.out.symm,hbe.trans (hb5.mono hbe.size)⟩
    |true=>
     have HDST:Hid (zeI u.lits.length x h=true):=zzH (by unfold zeI;rw [HQ1.out,hd2,hq];rfl);rw [hq]at hop;clear hd2 hq;go_wp2_with fail;refine hop.mono ?_;rintro e w5 ⟨rfl,hB0⟩;go_wp2_with fail;go_meet
     case rel=>exact⟨HDST,hB0⟩
  |false=>
   by_cases z1:x.dst.kind=0
   ·have y1:(x.dst.kind==0)=true:=by rw [z1];rfl
    by_cases z2:x.dst.n=0
    ·have y2:(x.dst.n==0)=true:=by rw [z2];rfl
     have HDST:Hid (zeI u.lits.length x h=true):=zzH (by unfold zeI;rw [HQ1.out,decide_eq_true z1,decide_eq_true z2];rfl);clear z1 z2;go_wp2_with fail;go_meet
     case rel=>exact⟨HDST,zzR _ _⟩
    ·have y2:(x.dst.n==0)=false:=zzB.2 z2
     have E:Hid (zU u.lits.length x h lo hi=false):=zzH (by unfold zU zeI;rw [HQ1.out,decide_eq_true z1,decide_eq_false z2];rfl);clear z1 z2;exact zz6
   ·have y1:(x.dst.kind==0)=false:=zzB.2 z1
    have E:Hid (zU u.lits.length x h lo hi=false):=zzH (by unfold zU zeI;rw [HQ1.out,decide_eq_false z1];rfl);clear z1;exact zz6
 case rest=>
  obtain⟨HDST,hB0⟩:=hcut;rename_i w5;have i3:=(HX.out.below hB0).c3;go_wp2_with fail;go_loopw [39] (fun iv wr=> ∃k:Nat,k<=x.src.length/\iv= .int .i64 k/\Hid (∀j (h:j<x.src.length),j<k->zbh u.lits.length x.src[j]=true)/\Below Wa.heap.size Wa wr) (fun iv _=>x.src.length-(intOf iv).toNat)
  case atStart=>exact⟨0,zzZ _,rfl,zzH (fun j _ h=>absurd h (zzC _)),hB0⟩
  case round=>
   obtain⟨k,hk,rfl,HK,hB⟩:=hrel;rename World=>wr
   have ib:=HX.out.below hB;have ub:=HU.out.below hB;by_cases hlt:k<x.src.length
   ·obtain⟨b2,off,hao,hb2,q0,q1,r0,r1⟩:=ib.src.arg hlt
    subst hao
    have HE:Hid (zbh u.lits.length x.src[k]=false->zU u.lits.length x h lo hi=false):=zzH (fun hf=>by
     unfold zU
     have:x.src.all (zbh u.lits.length)=false:=by
      rw [List.all_eq_false];exact⟨x.src[k],zzM hlt,by rw [hf];decide⟩
     rw [this];simp)
    have HN:Hid (zbh u.lits.length x.src[k]=true-> ∀j (h:j<x.src.length),j<k+1->zbh u.lits.length x.src[j]=true):=zzH (fun hne j h hj=>by
     rcases Nat.eq_or_lt_of_le (Nat.le_of_lt_succ hj)with e|e
     ·subst e;exact hne
     ·exact HK.out j h e)
    generalize x.src[k]=a at *;have hba:=(zzR wr.heap.size wr).alloc (zzL _) (.cells #[.int .i64 a.kind,.int .i64 a.n] 42);have hop:=zeu B u lo' fo go' co' lc fc gc' cc' a _ (ub.below hba) hl ⟨r0,r1⟩;clear ib ub
    cases hq:zbh u.lits.length a with
    |false=>
     have E:=zzH (HE.out hq);rw [hq]at hop;clear hq;go_wp2_with fail;refine hop.mono ?_;rintro e w5 ⟨rfl,hb5⟩;go_wp2;go_ret;exact⟨zl E.out.symm,HBA.out.trans ((hB.trans ((hba.trans (hb5.mono (by simp))).mono hB.size)).mono HBA.out.size)⟩
    |true=>
     have HN2:=zzH (HN.out hq);rw [hq]at hop;clear hq;go_wp2_with fail;refine hop.mono ?_;rintro e w5 ⟨rfl,hb5⟩;go_wp2_with fail;go_roundw
     case rel=>exact⟨k+1,by omega,by go_num,HN2,hB.trans ((hba.trans (hb5.mono (by simp))).mono hB.size)⟩
     case measure=>simp [intOf];omega
   ·have HALL:Hid (x.src.all (zbh u.lits.length)=true):=zzH (by
     rw [List.all_eq_true];intro a ha;obtain⟨j,hj,rfl⟩:=List.getElem_of_mem ha;exact HK.out j hj (by omega))
    have hC2:=(hB.block C (zd hC)).trans hC;obtain ⟨hcW,hcL,hcH⟩:=zzc3 hC2;have d3:=ib.c3;have d4:=ib.c4;have d5:=ib.c5;have d6:=ib.c6;have d7:=ib.c7;have d8:=ib.c8;have d9:=ib.c9;have hsrc:=ib.rsrc;clear ib ub hC2
    have HF:Hid (zU u.lits.length x h lo hi=(wi x.src.length lo hi&&(wi x.live 0 256&&((zx h 4||x.n==0)&&((zx h 8||x.name.toList.isEmpty)&&((zx h 64||x.to==0)&&((zx h 128||x.live==0)&&((zx h 16||x.cases.length==0)&&(zx h 32||x.segs.length==0))))))))):=zzH (by
     unfold zU;rw [HDST.out,HALL.out];rfl)
    have hBZ:=HBA.out.trans (hB.mono HBA.out.size)
    cases hw1:wi x.src.length lo hi with
    |false=>
     have E:Hid (zU u.lits.length x h lo hi=false):=zzH (by rw [HF.out,hw1];rfl);go_wp2_with fail;go_quiet ((go_at_call 47;exact zze ((zK _ _ _ _).mono fun _ _ ⟨a,b⟩=>⟨a,b.symm⟩)));go_wp2;go_ret;exact⟨zl E.out.symm,zm hBZ _⟩
    |true=>
     go_wp2_with fail;go_quiet ((go_at_call 47;exact zze ((zK _ _ _ _).mono fun _ _ ⟨a,b⟩=>⟨a,b.symm⟩)));have HBQ:=zzH hBZ
     cases hw2:wi x.live 0 256 with
     |false=>
      have E:Hid (zU u.lits.length x h lo hi=false):=zzH (by rw [HF.out,hw1,hw2];rfl);go_wp2_with (go_at_call 47;refine(zK _ _ _ _).mono ?_;rintro e w1 ⟨rfl,rfl⟩);go_ret;exact⟨zl E.out.symm,zm hBZ _⟩
     |true=>
      have HF2:Hid (zU u.lits.length x h lo hi=((zx h 4||x.n==0)&&((zx h 8||x.name.toList.isEmpty)&&((zx h 64||x.to==0)&&((zx h 128||x.live==0)&&((zx h 16||x.cases.length==0)&&(zx h 32||x.segs.length==0))))))):=zzH (by rw [HF.out,hw1,hw2];rfl);clear HF;have HQ0:=zzH hcW;go_upto_region 16 with(go_at_call 47;refine(zK _ _ _ _).mono ?_;rintro e w1 ⟨rfl,rfl⟩);have hBW:=zm hBZ nq;refine zzK7 d3 d4 d5 d6 d7 d8 d9 fun d3' d4' d5' d6' d7' d8' d9'=>?_;clear d3 d4 d5 d6 d7 d8 d9 hcW hcL hcH;generalize hWQ:wr.drewN nq=Wq at *;have hcW:Wq.cell? ⟨C,0,none⟩=some (.int .i64 h):=by rw [<-hWQ];exact HQ0.out
      have d4:=d4'.out;rw [show wr.cell?=Wq.cell? from by rw [<-hWQ];rfl]at d4;have d5:=d5'.out;rw [show wr.cell?=Wq.cell? from by rw [<-hWQ];rfl]at d5;have d6:=d6'.out;rw [show wr.cell?=Wq.cell? from by rw [<-hWQ];rfl]at d6;have d7:=d7'.out;rw [show wr.cell?=Wq.cell? from by rw [<-hWQ];rfl]at d7;have d8:=d8'.out;rw [show wr.cell?=Wq.cell? from by rw [<-hWQ];rfl]at d8;have d9:=d9'.out;rw [show wr.cell?=Wq.cell? from by rw [<-hWQ];rfl]at d9;clear hWQ;have HG0:Hid (zU u.lits.length x h lo hi=((zx h 4||x.n==0)&&((zx h 8||x.name.toList.isEmpty)&&((zx h 64||x.to==0)&&((zx h 128||x.live==0)&&((zx h 16||x.cases.length==0)&&(zx h 32||x.segs.length==0))))))):=zzH (by rw [HF2.out]);have hh:=fun wx (hc:wx.cell? ⟨C,0,none⟩=some (.int .i64 h))=>zeo h 4 4 rfl C wx hc (by omega) (by omega)
      go_cut [66] (fun sv wx=> ∃v:Bool,sv= .bool v/\Hid ((zx h 4||x.n==0)= !v)/\Wq=wx)
      case first=>
       go_wp2_with fail;refine(hh _ hcW).mono ?_;rintro e w1 ⟨rfl,rfl⟩
       cases hq4:zx h 4
       ·exact zz8
       ·exact zz8
      case rest=>
       obtain⟨v,rfl,HV00,rfl⟩:=hcut;clear hh
       cases v with
       |true=>
        have E:Hid (zU u.lits.length x h lo hi=false):=zzH (by rw [HG0.out,HV00.out];rfl);exact zz9
       |false=>
        have HV0:Hid ((zx h 4||x.n==0)=true):=zzH (by rw [HV00.out];rfl);go_upto_region 17 with fail;have HG1:Hid (zU u.lits.length x h lo hi=((zx h 8||x.name.toList.isEmpty)&&((zx h 64||x.to==0)&&((zx h 128||x.live==0)&&((zx h 16||x.cases.length==0)&&(zx h 32||x.segs.length==0)))))):=zzH (by rw [HG0.out,HV0.out,zzq15]);have hh:=fun wx (hc:wx.cell? ⟨C,0,none⟩=some (.int .i64 h))=>zeo h 8 8 rfl C wx hc (by omega) (by omega)
        go_cut [66] (fun sv wx=> ∃v:Bool,sv= .bool v/\Hid ((zx h 8||x.name.toList.isEmpty)= !v)/\Wq=wx)
        case first=>
         go_wp2_with fail;refine(hh _ hcW).mono ?_;rintro e w1 ⟨rfl,rfl⟩
         cases hq4:zx h 8
         ·exact zz8
         ·exact zz8
        case rest=>
         obtain⟨v,rfl,HV10,rfl⟩:=hcut;clear hh
         cases v with
         |true=>
          have E:Hid (zU u.lits.length x h lo hi=false):=zzH (by rw [HG1.out,HV10.out];rfl);exact zz9
         |false=>
          have HV1:Hid ((zx h 8||x.name.toList.isEmpty)=true):=zzH (by rw [HV10.out];rfl);go_upto_region 18 with fail;have HG2:Hid (zU u.lits.length x h lo hi=((zx h 64||x.to==0)&&((zx h 128||x.live==0)&&((zx h 16||x.cases.length==0)&&(zx h 32||x.segs.length==0))))):=zzH (by rw [HG1.out,HV1.out,zzq15]);have hh:=fun wx (hc:wx.cell? ⟨C,0,none⟩=some (.int .i64 h))=>zeo h 64 64 rfl C wx hc (by omega) (by omega)
          go_cut [66] (fun sv wx=> ∃v:Bool,sv= .bool v/\Hid ((zx h 64||x.to==0)= !v)/\Wq=wx)
          case first=>
           go_wp2_with fail;refine(hh _ hcW).mono ?_;rintro e w1 ⟨rfl,rfl⟩
           cases hq4:zx h 64
           ·exact zz8
           ·exact zz8
          case rest=>
           obtain⟨v,rfl,HV20,rfl⟩:=hcut;clear hh
           cases v with
           |true=>
            have E:Hid (zU u.lits.length x h lo hi=false):=zzH (by rw [HG2.out,HV20.out];rfl);exact zz9
           |false=>
            have HV2:Hid ((zx h 64||x.to==0)=true):=zzH (by rw [HV20.out];rfl);go_upto_region 19 with fail;have HG3:Hid (zU u.lits.length x h lo hi=((zx h 128||x.live==0)&&((zx h 16||x.cases.length==0)&&(zx h 32||x.segs.length==0)))):=zzH (by rw [HG2.out,HV2.out,zzq15]);have hh:=fun wx (hc:wx.cell? ⟨C,0,none⟩=some (.int .i64 h))=>zeo h 128 128 rfl C wx hc (by omega) (by omega)
            go_cut [66] (fun sv wx=> ∃v:Bool,sv= .bool v/\Hid ((zx h 128||x.live==0)= !v)/\Wq=wx)
            case first=>
             go_wp2_with fail;refine(hh _ hcW).mono ?_;rintro e w1 ⟨rfl,rfl⟩
             cases hq4:zx h 128
             ·exact zz8
             ·exact zz8
            case rest=>
             obtain⟨v,rfl,HV30,rfl⟩:=hcut;clear hh
             cases v with
             |true=>
              have E:Hid (zU u.lits.length x h lo hi=false):=zzH (by rw [HG3.out,HV30.out];rfl);exact zz9
             |false=>
              have HV3:Hid ((zx h 128||x.live==0)=true):=zzH (by rw [HV30.out];rfl);go_upto_region 21 with fail;have HG4:Hid (zU u.lits.length x h lo hi=((zx h 16||x.cases.length==0)&&(zx h 32||x.segs.length==0))):=zzH (by rw [HG3.out,HV3.out,zzq15]);have hh:=fun wx (hc:wx.cell? ⟨C,0,none⟩=some (.int .i64 h))=>zeo h 16 16 rfl C wx hc (by omega) (by omega)
              go_cut [107] (fun sv wx=> ∃v:Bool,sv= .bool v/\Hid ((zx h 16||x.cases.length==0)= !v)/\Wq=wx)
              case first=>
               go_wp2_with fail;refine(hh _ hcW).mono ?_;rintro e w1 ⟨rfl,rfl⟩
               cases hq4:zx h 16
               ·exact zz8
               ·exact zz8
              case rest=>
               obtain⟨v,rfl,HV40,rfl⟩:=hcut;clear hh
               cases v with
               |true=>
                have E:Hid (zU u.lits.length x h lo hi=false):=zzH (by rw [HG4.out,HV40.out];rfl);exact zz9
               |false=>
                have HV4:Hid ((zx h 16||x.cases.length==0)=true):=zzH (by rw [HV40.out];rfl);go_upto_region 22 with fail;have HG5:Hid (zU u.lits.length x h lo hi=(zx h 32||x.segs.length==0)):=zzH (by rw [HG4.out,HV4.out,zzq15]);have hh:=fun wx (hc:wx.cell? ⟨C,0,none⟩=some (.int .i64 h))=>zeo h 32 32 rfl C wx hc (by omega) (by omega)
                go_cut [107] (fun sv wx=> ∃v:Bool,sv= .bool v/\Hid ((zx h 32||x.segs.length==0)= !v)/\Wq=wx)
                case first=>
                 go_wp2_with fail;refine(hh _ hcW).mono ?_;rintro e w1 ⟨rfl,rfl⟩
                 cases hq4:zx h 32
                 ·exact zz8
                 ·exact zz8
                case rest=>
                 obtain⟨v,rfl,HV50,rfl⟩:=hcut;clear hh
                 cases v with
                 |true=>
                  have E:Hid (zU u.lits.length x h lo hi=false):=zzH (by rw [HG5.out,HV50.out];rfl);exact zz9
                 |false=>
                  have HV5:Hid ((zx h 32||x.segs.length==0)=true):=zzH (by rw [HV50.out];rfl);have E:Hid (zU u.lits.length x h lo hi=true):=zzH (by rw [HG5.out,HV5.out]);exact zz9
open Go.RowKit Go.Maps Go.WideMaps
theorem zpy:laidOutB Tryz.prog=true:=by kernel_rfl
theorem sigLaw:Keyed Tryz.prog 115:=Keyed.of_law (deep_law_laid zpy (m:=2) (by omega) (zza (by kernel_rfl)) (by kernel_rfl) (by rw [Tryz.underlying115]))
theorem zow (w:World):(zeroValue 4).run Tryz.prog w= .ok (.bool false) w:=by kernel_rfl
def zeX (s:ByteArray) (a:Int):Lit:=.string (keyBytes [.string s.data.toList,.int .i64 a])
theorem zlG:Tryz.prog.keyType 115=true:=by kernel_rfl
theorem sigCells:Tryz.prog.cellsOf 115=2:=by kernel_rfl
theorem znz:Tryz.prog.cellsOf 9=1:=by kernel_rfl
theorem zmF:Tryz.prog.cellsOf 3=1:=by kernel_rfl
theorem zoL: ∃m,Tryz.prog.types.size+1=m+1+1:=⟨Tryz.prog.types.size-1,by have:0<Tryz.prog.types.size:=zza (by kernel_rfl);omega⟩
theorem zez {s:ByteArray} {a:Int} (hs:s.size<=maxLen) (ha:I64 a):keyOf Tryz.prog 115 (.agg #[.string s,.int .i64 a])=some (zeX s a):=by
 have hwf:(Lit.int .i64 a).wf=true:=by
  obtain⟨h1,h2⟩:=ha;simp [Lit.wf,IntKind.min,IntKind.max,IntKind.bits,IntKind.signed];omega
 unfold keyOf zeX;simp only [Tryz.underlying115];rw [if_pos (by simp [zlG,Value.formed,Tryz.underlying115,sigCells])];obtain⟨m,hm⟩:=zoL;rw [hm];unfold Program.keyLits;simp only [Tryz.underlying115,Value.cells];simp [Program.keyLits,Tryz.underlying9,Tryz.underlying3,znz,zmF,hs,hwf];exact sigCells.symm
theorem zlv {s s':ByteArray} {a a':Int} (hs:s.size<=maxLen) (hs':s'.size<=maxLen) (ha:I64 a) (ha':I64 a') (h:zeX s a=zeX s' a'):s=s'/\a=a':=by
 have h1:=zez hs ha;have h2:=zez hs' ha';rw [<-h]at h2;have h3:=sigLaw.inj h1 h2;injection h3 with h3;have h4:=congrArg Array.toList h3;simp at h4;exact h4
def SigIs (w:World) (M n:Nat) (S:ByteArray->Int->Bool):Prop:= ∃D:DataW Unit,w.ownsMap Tryz.prog 115 (plainElem Tryz.prog 4) M n D/\ ∀(s:ByteArray) (a:Int),s.size<=maxLen->I64 a->D.atKey (zeX s a) (.lit (.bool false))= .lit (.bool (S s a))
theorem SigIs.kept {w w':World} {M n:Nat} {S:ByteArray->Int->Bool} (h:SigIs w M n S) (hb:Below w.heap.size w w'):SigIs w' M n S:=by
 obtain⟨D,h1,h2⟩:=h;exact⟨D,h1.kept (row:=none) ⟨hb.os,hb.tape,hb.output,hb.size,fun k hk _=>hb.block k hk⟩ (by simp),h2⟩
theorem SigIs.lt {w:World} {M n:Nat} {S:ByteArray->Int->Bool} (h:SigIs w M n S):M<w.heap.size:=h.elim fun _ h=>h.1.lt
theorem znR (w:World):SigIs (w.alloc (.map #[] 0)) w.heap.size 0 (fun _ _=>false):=⟨_,World.ownsMap_made w _ _ _,fun s a _ _=>rfl⟩
theorem zgb {P:Program} {e:TypeId} (he:P.underlying e=some .bool) {v:Value} {z:DataW Unit × List MemPlace} (h:plainElem P e v=some z): ∃c,v= .bool c/\z=(.lit (.bool c),[]):=by
 unfold plainElem at h;rw [he]at h
 cases v<;>simp at h
 exact⟨_,rfl,h.symm⟩
theorem zoa {w:World} {M n:Nat} {S:ByteArray->Int->Bool} (h:SigIs w M n S) {s:ByteArray} {a:Int} (hs:s.size<=maxLen) (ha:I64 a):
  (Instr.lookup 113 (.map (some M)) (.agg #[.string s,.int .i64 a]) false).run Tryz.prog w= .ok (.bool (S s a)) w:=by
 obtain⟨D,h1,h2⟩:=h;obtain⟨v,ps,hrun,hv⟩:=h1.lookup sigLaw Tryz.underlying113 (zow w) (plainElem_bool Tryz.underlying4 false) (zez hs ha);obtain⟨c,rfl,hc⟩:=zgb Tryz.underlying4 hv;rw [h2 s a hs ha]at hc;have e1:(DataW.lit (.bool (S s a)):DataW Unit)= .lit (.bool c):=congrArg Prod.fst hc;have e2:S s a=c:=by injection e1 with e1;injection e1
 rw [hrun,e2]
theorem zpr {w w':World} {M n:Nat} {S:ByteArray->Int->Bool} {D:DataW Unit} (h1:w.ownsMap Tryz.prog 115 (plainElem Tryz.prog 4) M n D) (h2: ∀(s:ByteArray) (a:Int),s.size<=maxLen->I64 a->D.atKey (zeX s a) (.lit (.bool false))= .lit (.bool (S s a)))
  {s:ByteArray} {a:Int} (hs:s.size<=maxLen) (ha:I64 a) (h3:w'.ownsMap Tryz.prog 115 (plainElem Tryz.prog 4) M (n+1) (D.put (zeX s a) (.lit (.bool true)))):SigIs w' M (n+1) (fun s' a'=>(s.data.toList==s'.data.toList&&a==a')||S s' a'):=by
 refine⟨_,h3,fun s' a' hs' ha'=>?_⟩;by_cases e:s'=s/\a'=a
 ·obtain⟨rfl,rfl⟩:=e
  rw [atKey_put_same h1.isMap (sigLaw.key (zez hs ha))];simp
 ·rw [atKey_put_other (fun h=>e (zlv hs' hs ha' ha h)),h2 s' a' hs' ha']
  have:(s.data.toList==s'.data.toList&&a==a')=false:=by
   cases h:(s.data.toList==s'.data.toList&&a==a')with
   |false=>rfl
   |true=>
    rw [zzq4,beq_iff_eq,beq_iff_eq]at h;exact absurd ⟨ByteArray.ext (Array.toList_inj.1 h.1.symm),h.2.symm⟩ e
  simp only [this,zzq9]
def zi (nf:Nat) (funs:List RFun) (x:RIns):Bool:=
 if x.op=4 then wi x.n 0 ((funs.length:Int)-1)&&(match funs[x.n.toNat]? with
  |some f=>decide ((x.src.length:Int)=f.free)
  |none=>false)
 else if x.op=5 then wi x.n 0 254 else if x.op=9 then wi x.n 0 255 else if x.op=16\/x.op=17 then wi x.n 0 ((nf:Int)-1)
 else if x.op=15\/x.op=18\/x.op=19\/x.op=20\/x.op=21 then wi x.n 0 16 else if x.op=24 then wi x.n 1 8192 else if x.op=31 then wi x.n 0 3
 else if x.op=32\/x.op=33 then decide (x.n=1)||decide (x.n=8)else true
theorem zoO (B:Nat) (u:RUnit) (lo' fo go' co':zzA) (lc fc gc' cc':Nat) (b o:Nat) (x:RIns) (so co go:zzA) (sc cc gc:Nat) (w:World) (hu:UBox w B u lo' fo go' co' lc fc gc' cc') (hl:u.funcs.length<=9223372036854775807) (hl2:u.funs.length<=9223372036854775807) (hf:SlAt w 3 zbX go' u.funs) (hx:IBox w b o x so co go sc cc gc) (hop:x.op=5):
  Calls Tryz.prog 25 #[.pointer (some ⟨B,0,none⟩),.pointer (some ⟨b,o,none⟩)] w fun e w'=>e= .returned (.bool (zi u.funcs.length u.funs x))/\Below w.heap.size w w':=by
 have c0:=hx.c0;have c3:=hx.c3;have c5:=hx.c5;have b3:=hu.c3;have b4:=hu.c4;have r1:=hx.rn;have r2:=hx.rsrc;obtain⟨r1a,r1b⟩:=r1;have HF:=zzH hf;clear hu hx hf;have hw1:=zzV u.funcs.length (by omega)
 have hw2:=zzV u.funs.length (by omega)
 have E:Hid (zi u.funcs.length u.funs x=wi x.n 0 254):=zzH (by unfold zi;rw [hop];rfl);rw [hop]at c0;clear hop;go_in;go_wp2_with (go_at_call 47;refine(zK _ _ _ _).mono ?_;rintro e w1 ⟨rfl,rfl⟩);go_ret;exact⟨zl E.out.symm,zzR _ _⟩
theorem zog (B:Nat) (u:RUnit) (lo' fo go' co':zzA) (lc fc gc' cc':Nat) (b o:Nat) (x:RIns) (so co go:zzA) (sc cc gc:Nat) (w:World) (hu:UBox w B u lo' fo go' co' lc fc gc' cc') (hl:u.funcs.length<=9223372036854775807) (hl2:u.funs.length<=9223372036854775807) (hf:SlAt w 3 zbX go' u.funs) (hx:IBox w b o x so co go sc cc gc) (hop:x.op=9):
  Calls Tryz.prog 25 #[.pointer (some ⟨B,0,none⟩),.pointer (some ⟨b,o,none⟩)] w fun e w'=>e= .returned (.bool (zi u.funcs.length u.funs x))/\Below w.heap.size w w':=by
 have c0:=hx.c0;have c3:=hx.c3;have c5:=hx.c5;have b3:=hu.c3;have b4:=hu.c4;have r1:=hx.rn;have r2:=hx.rsrc;obtain⟨r1a,r1b⟩:=r1;have HF:=zzH hf;clear hu hx hf;have hw1:=zzV u.funcs.length (by omega)
 have hw2:=zzV u.funs.length (by omega)
 have E:Hid (zi u.funcs.length u.funs x=wi x.n 0 255):=zzH (by unfold zi;rw [hop];rfl);rw [hop]at c0;clear hop;go_in;go_wp2_with (go_at_call 47;refine(zK _ _ _ _).mono ?_;rintro e w1 ⟨rfl,rfl⟩);go_ret;exact⟨zl E.out.symm,zzR _ _⟩
theorem zmY (B:Nat) (u:RUnit) (lo' fo go' co':zzA) (lc fc gc' cc':Nat) (b o:Nat) (x:RIns) (so co go:zzA) (sc cc gc:Nat) (w:World) (hu:UBox w B u lo' fo go' co' lc fc gc' cc') (hl:u.funcs.length<=9223372036854775807) (hl2:u.funs.length<=9223372036854775807) (hf:SlAt w 3 zbX go' u.funs) (hx:IBox w b o x so co go sc cc gc) (hop:x.op=15):
  Calls Tryz.prog 25 #[.pointer (some ⟨B,0,none⟩),.pointer (some ⟨b,o,none⟩)] w fun e w'=>e= .returned (.bool (zi u.funcs.length u.funs x))/\Below w.heap.size w w':=by
 have c0:=hx.c0;have c3:=hx.c3;have c5:=hx.c5;have b3:=hu.c3;have b4:=hu.c4;have r1:=hx.rn;have r2:=hx.rsrc;obtain⟨r1a,r1b⟩:=r1;have HF:=zzH hf;clear hu hx hf;have hw1:=zzV u.funcs.length (by omega)
 have hw2:=zzV u.funs.length (by omega)
 have E:Hid (zi u.funcs.length u.funs x=wi x.n 0 16):=zzH (by unfold zi;rw [hop];rfl);rw [hop]at c0;clear hop;go_in;go_wp2_with (go_at_call 47;refine(zK _ _ _ _).mono ?_;rintro e w1 ⟨rfl,rfl⟩);go_ret;exact⟨zl E.out.symm,zzR _ _⟩
theorem zmy (B:Nat) (u:RUnit) (lo' fo go' co':zzA) (lc fc gc' cc':Nat) (b o:Nat) (x:RIns) (so co go:zzA) (sc cc gc:Nat) (w:World) (hu:UBox w B u lo' fo go' co' lc fc gc' cc') (hl:u.funcs.length<=9223372036854775807) (hl2:u.funs.length<=9223372036854775807) (hf:SlAt w 3 zbX go' u.funs) (hx:IBox w b o x so co go sc cc gc) (hop:x.op=18):
  Calls Tryz.prog 25 #[.pointer (some ⟨B,0,none⟩),.pointer (some ⟨b,o,none⟩)] w fun e w'=>e= .returned (.bool (zi u.funcs.length u.funs x))/\Below w.heap.size w w':=by
 have c0:=hx.c0;have c3:=hx.c3;have c5:=hx.c5;have b3:=hu.c3;have b4:=hu.c4;have r1:=hx.rn;have r2:=hx.rsrc;obtain⟨r1a,r1b⟩:=r1;have HF:=zzH hf;clear hu hx hf;have hw1:=zzV u.funcs.length (by omega)
 have hw2:=zzV u.funs.length (by omega)
 have E:Hid (zi u.funcs.length u.funs x=wi x.n 0 16):=zzH (by unfold zi;rw [hop];rfl);rw [hop]at c0;clear hop;go_in;go_wp2_with (go_at_call 47;refine(zK _ _ _ _).mono ?_;rintro e w1 ⟨rfl,rfl⟩);go_ret;exact⟨zl E.out.symm,zzR _ _⟩
theorem zmA (B:Nat) (u:RUnit) (lo' fo go' co':zzA) (lc fc gc' cc':Nat) (b o:Nat) (x:RIns) (so co go:zzA) (sc cc gc:Nat) (w:World) (hu:UBox w B u lo' fo go' co' lc fc gc' cc') (hl:u.funcs.length<=9223372036854775807) (hl2:u.funs.length<=9223372036854775807) (hf:SlAt w 3 zbX go' u.funs) (hx:IBox w b o x so co go sc cc gc) (hop:x.op=19):
  Calls Tryz.prog 25 #[.pointer (some ⟨B,0,none⟩),.pointer (some ⟨b,o,none⟩)] w fun e w'=>e= .returned (.bool (zi u.funcs.length u.funs x))/\Below w.heap.size w w':=by
 have c0:=hx.c0;have c3:=hx.c3;have c5:=hx.c5;have b3:=hu.c3;have b4:=hu.c4;have r1:=hx.rn;have r2:=hx.rsrc;obtain⟨r1a,r1b⟩:=r1;have HF:=zzH hf;clear hu hx hf;have hw1:=zzV u.funcs.length (by omega)
 have hw2:=zzV u.funs.length (by omega)
 have E:Hid (zi u.funcs.length u.funs x=wi x.n 0 16):=zzH (by unfold zi;rw [hop];rfl);rw [hop]at c0;clear hop;go_in;go_wp2_with (go_at_call 47;refine(zK _ _ _ _).mono ?_;rintro e w1 ⟨rfl,rfl⟩);go_ret;exact⟨zl E.out.symm,zzR _ _⟩
theorem zmD (B:Nat) (u:RUnit) (lo' fo go' co':zzA) (lc fc gc' cc':Nat) (b o:Nat) (x:RIns) (so co go:zzA) (sc cc gc:Nat) (w:World) (hu:UBox w B u lo' fo go' co' lc fc gc' cc') (hl:u.funcs.length<=9223372036854775807) (hl2:u.funs.length<=9223372036854775807) (hf:SlAt w 3 zbX go' u.funs) (hx:IBox w b o x so co go sc cc gc) (hop:x.op=20):
  Calls Tryz.prog 25 #[.pointer (some ⟨B,0,none⟩),.pointer (some ⟨b,o,none⟩)] w fun e w'=>e= .returned (.bool (zi u.funcs.length u.funs x))/\Below w.heap.size w w':=by
 have c0:=hx.c0;have c3:=hx.c3;have c5:=hx.c5;have b3:=hu.c3;have b4:=hu.c4;have r1:=hx.rn;have r2:=hx.rsrc;obtain⟨r1a,r1b⟩:=r1;have HF:=zzH hf;clear hu hx hf;have hw1:=zzV u.funcs.length (by omega)
 have hw2:=zzV u.funs.length (by omega)
 have E:Hid (zi u.funcs.length u.funs x=wi x.n 0 16):=zzH (by unfold zi;rw [hop];rfl);rw [hop]at c0;clear hop;go_in;go_wp2_with (go_at_call 47;refine(zK _ _ _ _).mono ?_;rintro e w1 ⟨rfl,rfl⟩);go_ret;exact⟨zl E.out.symm,zzR _ _⟩
theorem zni (B:Nat) (u:RUnit) (lo' fo go' co':zzA) (lc fc gc' cc':Nat) (b o:Nat) (x:RIns) (so co go:zzA) (sc cc gc:Nat) (w:World) (hu:UBox w B u lo' fo go' co' lc fc gc' cc') (hl:u.funcs.length<=9223372036854775807) (hl2:u.funs.length<=9223372036854775807) (hf:SlAt w 3 zbX go' u.funs) (hx:IBox w b o x so co go sc cc gc) (hop:x.op=21):
  Calls Tryz.prog 25 #[.pointer (some ⟨B,0,none⟩),.pointer (some ⟨b,o,none⟩)] w fun e w'=>e= .returned (.bool (zi u.funcs.length u.funs x))/\Below w.heap.size w w':=by
 have c0:=hx.c0;have c3:=hx.c3;have c5:=hx.c5;have b3:=hu.c3;have b4:=hu.c4;have r1:=hx.rn;have r2:=hx.rsrc;obtain⟨r1a,r1b⟩:=r1;have HF:=zzH hf;clear hu hx hf;have hw1:=zzV u.funcs.length (by omega)
 have hw2:=zzV u.funs.length (by omega)
 have E:Hid (zi u.funcs.length u.funs x=wi x.n 0 16):=zzH (by unfold zi;rw [hop];rfl);rw [hop]at c0;clear hop;go_in;go_wp2_with (go_at_call 47;refine(zK _ _ _ _).mono ?_;rintro e w1 ⟨rfl,rfl⟩);go_ret;exact⟨zl E.out.symm,zzR _ _⟩
theorem znd (B:Nat) (u:RUnit) (lo' fo go' co':zzA) (lc fc gc' cc':Nat) (b o:Nat) (x:RIns) (so co go:zzA) (sc cc gc:Nat) (w:World) (hu:UBox w B u lo' fo go' co' lc fc gc' cc') (hl:u.funcs.length<=9223372036854775807) (hl2:u.funs.length<=9223372036854775807) (hf:SlAt w 3 zbX go' u.funs) (hx:IBox w b o x so co go sc cc gc) (hop:x.op=24):
  Calls Tryz.prog 25 #[.pointer (some ⟨B,0,none⟩),.pointer (some ⟨b,o,none⟩)] w fun e w'=>e= .returned (.bool (zi u.funcs.length u.funs x))/\Below w.heap.size w w':=by
 have c0:=hx.c0;have c3:=hx.c3;have c5:=hx.c5;have b3:=hu.c3;have b4:=hu.c4;have r1:=hx.rn;have r2:=hx.rsrc;obtain⟨r1a,r1b⟩:=r1;have HF:=zzH hf;clear hu hx hf;have hw1:=zzV u.funcs.length (by omega)
 have hw2:=zzV u.funs.length (by omega)
 have E:Hid (zi u.funcs.length u.funs x=wi x.n 1 8192):=zzH (by unfold zi;rw [hop];rfl);rw [hop]at c0;clear hop;go_in;go_wp2_with (go_at_call 47;refine(zK _ _ _ _).mono ?_;rintro e w1 ⟨rfl,rfl⟩);go_ret;exact⟨zl E.out.symm,zzR _ _⟩
theorem zmU (B:Nat) (u:RUnit) (lo' fo go' co':zzA) (lc fc gc' cc':Nat) (b o:Nat) (x:RIns) (so co go:zzA) (sc cc gc:Nat) (w:World) (hu:UBox w B u lo' fo go' co' lc fc gc' cc') (hl:u.funcs.length<=9223372036854775807) (hl2:u.funs.length<=9223372036854775807) (hf:SlAt w 3 zbX go' u.funs) (hx:IBox w b o x so co go sc cc gc) (hop:x.op=31):
  Calls Tryz.prog 25 #[.pointer (some ⟨B,0,none⟩),.pointer (some ⟨b,o,none⟩)] w fun e w'=>e= .returned (.bool (zi u.funcs.length u.funs x))/\Below w.heap.size w w':=by
 have c0:=hx.c0;have c3:=hx.c3;have c5:=hx.c5;have b3:=hu.c3;have b4:=hu.c4;have r1:=hx.rn;have r2:=hx.rsrc;obtain⟨r1a,r1b⟩:=r1;have HF:=zzH hf;clear hu hx hf;have hw1:=zzV u.funcs.length (by omega)
 have hw2:=zzV u.funs.length (by omega)
 have E:Hid (zi u.funcs.length u.funs x=wi x.n 0 3):=zzH (by unfold zi;rw [hop];rfl);rw [hop]at c0;clear hop;go_in;go_wp2_with (go_at_call 47;refine(zK _ _ _ _).mono ?_;rintro e w1 ⟨rfl,rfl⟩);go_ret;exact⟨zl E.out.symm,zzR _ _⟩
theorem zmE (B:Nat) (u:RUnit) (lo' fo go' co':zzA) (lc fc gc' cc':Nat) (b o:Nat) (x:RIns) (so co go:zzA) (sc cc gc:Nat) (w:World) (hu:UBox w B u lo' fo go' co' lc fc gc' cc') (hl:u.funcs.length<=9223372036854775807) (hl2:u.funs.length<=9223372036854775807) (hf:SlAt w 3 zbX go' u.funs) (hx:IBox w b o x so co go sc cc gc) (hop:x.op=16):
  Calls Tryz.prog 25 #[.pointer (some ⟨B,0,none⟩),.pointer (some ⟨b,o,none⟩)] w fun e w'=>e= .returned (.bool (zi u.funcs.length u.funs x))/\Below w.heap.size w w':=by
 have c0:=hx.c0;have c3:=hx.c3;have c5:=hx.c5;have b3:=hu.c3;have b4:=hu.c4;have r1:=hx.rn;have r2:=hx.rsrc;obtain⟨r1a,r1b⟩:=r1;have HF:=zzH hf;clear hu hx hf;have hw1:=zzV u.funcs.length (by omega)
 have hw2:=zzV u.funs.length (by omega)
 have E:Hid (zi u.funcs.length u.funs x=wi x.n 0 ((u.funcs.length:Int)-1)):=zzH (by unfold zi;rw [hop];rfl);rw [hop]at c0;clear hop;go_in;go_wp2_with fail;go_quiet ((go_at_call 47;exact zze ((zK _ _ _ _).mono fun _ _ ⟨a,b⟩=>⟨a,b.symm⟩)));go_wp2;go_ret;exact⟨zl E.out.symm,zm (zzR _ _) _⟩
theorem zmB (B:Nat) (u:RUnit) (lo' fo go' co':zzA) (lc fc gc' cc':Nat) (b o:Nat) (x:RIns) (so co go:zzA) (sc cc gc:Nat) (w:World) (hu:UBox w B u lo' fo go' co' lc fc gc' cc') (hl:u.funcs.length<=9223372036854775807) (hl2:u.funs.length<=9223372036854775807) (hf:SlAt w 3 zbX go' u.funs) (hx:IBox w b o x so co go sc cc gc) (hop:x.op=17):
  Calls Tryz.prog 25 #[.pointer (some ⟨B,0,none⟩),.pointer (some ⟨b,o,none⟩)] w fun e w'=>e= .returned (.bool (zi u.funcs.length u.funs x))/\Below w.heap.size w w':=by
 have c0:=hx.c0;have c3:=hx.c3;have c5:=hx.c5;have b3:=hu.c3;have b4:=hu.c4;have r1:=hx.rn;have r2:=hx.rsrc;obtain⟨r1a,r1b⟩:=r1;have HF:=zzH hf;clear hu hx hf;have hw1:=zzV u.funcs.length (by omega)
 have hw2:=zzV u.funs.length (by omega)
 have E:Hid (zi u.funcs.length u.funs x=wi x.n 0 ((u.funcs.length:Int)-1)):=zzH (by unfold zi;rw [hop];rfl);rw [hop]at c0;clear hop;go_in;go_wp2_with fail;go_quiet ((go_at_call 47;exact zze ((zK _ _ _ _).mono fun _ _ ⟨a,b⟩=>⟨a,b.symm⟩)));go_wp2;go_ret;exact⟨zl E.out.symm,zm (zzR _ _) _⟩
theorem zmn (B:Nat) (u:RUnit) (lo' fo go' co':zzA) (lc fc gc' cc':Nat) (b o:Nat) (x:RIns) (so co go:zzA) (sc cc gc:Nat) (w:World) (hu:UBox w B u lo' fo go' co' lc fc gc' cc') (hl:u.funcs.length<=9223372036854775807) (hl2:u.funs.length<=9223372036854775807) (hf:SlAt w 3 zbX go' u.funs) (hx:IBox w b o x so co go sc cc gc) (hop:x.op=32):
  Calls Tryz.prog 25 #[.pointer (some ⟨B,0,none⟩),.pointer (some ⟨b,o,none⟩)] w fun e w'=>e= .returned (.bool (zi u.funcs.length u.funs x))/\Below w.heap.size w w':=by
 have c0:=hx.c0;have c3:=hx.c3;have c5:=hx.c5;have b3:=hu.c3;have b4:=hu.c4;have r1:=hx.rn;have r2:=hx.rsrc;obtain⟨r1a,r1b⟩:=r1;have HF:=zzH hf;clear hu hx hf;have hw1:=zzV u.funcs.length (by omega)
 have hw2:=zzV u.funs.length (by omega)
 have E:Hid (zi u.funcs.length u.funs x=(decide (x.n=1)||decide (x.n=8))):=zzH (by unfold zi;rw [hop];rfl);rw [hop]at c0;clear hop;by_cases n1:x.n=1
 ·exact zz38
 ·exact zz37
theorem znu (B:Nat) (u:RUnit) (lo' fo go' co':zzA) (lc fc gc' cc':Nat) (b o:Nat) (x:RIns) (so co go:zzA) (sc cc gc:Nat) (w:World) (hu:UBox w B u lo' fo go' co' lc fc gc' cc') (hl:u.funcs.length<=9223372036854775807) (hl2:u.funs.length<=9223372036854775807) (hf:SlAt w 3 zbX go' u.funs) (hx:IBox w b o x so co go sc cc gc) (hop:x.op=33):
  Calls Tryz.prog 25 #[.pointer (some ⟨B,0,none⟩),.pointer (some ⟨b,o,none⟩)] w fun e w'=>e= .returned (.bool (zi u.funcs.length u.funs x))/\Below w.heap.size w w':=by
 have c0:=hx.c0;have c3:=hx.c3;have c5:=hx.c5;have b3:=hu.c3;have b4:=hu.c4;have r1:=hx.rn;have r2:=hx.rsrc;obtain⟨r1a,r1b⟩:=r1;have HF:=zzH hf;clear hu hx hf;have hw1:=zzV u.funcs.length (by omega)
 have hw2:=zzV u.funs.length (by omega)
 have E:Hid (zi u.funcs.length u.funs x=(decide (x.n=1)||decide (x.n=8))):=zzH (by unfold zi;rw [hop];rfl);rw [hop]at c0;clear hop;by_cases n1:x.n=1
 ·exact zz38
 ·exact zz37
theorem zj9 (B:Nat) (u:RUnit) (lo' fo go' co':zzA) (lc fc gc' cc':Nat) (b o:Nat) (x:RIns) (so co go:zzA) (sc cc gc:Nat) (w:World) (hu:UBox w B u lo' fo go' co' lc fc gc' cc') (hl:u.funcs.length<=9223372036854775807) (hl2:u.funs.length<=9223372036854775807) (hf:SlAt w 3 zbX go' u.funs) (hx:IBox w b o x so co go sc cc gc) (h5: ¬x.op=5) (h9: ¬x.op=9) (h15: ¬x.op=15) (h18: ¬x.op=18) (h19: ¬x.op=19) (h20: ¬x.op=20) (h21: ¬x.op=21) (h24: ¬x.op=24) (h31: ¬x.op=31) (h16: ¬x.op=16) (h17: ¬x.op=17) (h32: ¬x.op=32) (h33: ¬x.op=33) (h4: ¬x.op=4):
  Calls Tryz.prog 25 #[.pointer (some ⟨B,0,none⟩),.pointer (some ⟨b,o,none⟩)] w fun e w'=>e= .returned (.bool (zi u.funcs.length u.funs x))/\Below w.heap.size w w':=by
 have c0:=hx.c0;have c3:=hx.c3;have c5:=hx.c5;have b3:=hu.c3;have b4:=hu.c4;have r1:=hx.rn;have r2:=hx.rsrc;obtain⟨r1a,r1b⟩:=r1;have HF:=zzH hf;clear hu hx hf;have hw1:=zzV u.funcs.length (by omega)
 have hw2:=zzV u.funs.length (by omega)
 have E:Hid (zi u.funcs.length u.funs x=true):=zzH (by unfold zi;rw [if_neg h4,if_neg h5,if_neg h9,if_neg (by omega),if_neg (by omega),if_neg h24,if_neg h31,if_neg (by omega)]);have t5:(x.op==5)=false:=zzB.2 h5;have t9:(x.op==9)=false:=zzB.2 h9;have t15:(x.op==15)=false:=zzB.2 h15;have t18:(x.op==18)=false:=zzB.2 h18;have t19:(x.op==19)=false:=zzB.2 h19;have t20:(x.op==20)=false:=zzB.2 h20;have t21:(x.op==21)=false:=zzB.2 h21;have t24:(x.op==24)=false:=zzB.2 h24;have t31:(x.op==31)=false:=zzB.2 h31;have t16:(x.op==16)=false:=zzB.2 h16;have t17:(x.op==17)=false:=zzB.2 h17;have t32:(x.op==32)=false:=zzB.2 h32;have t33:(x.op==33)=false:=zzB.2 h33;have t4:(x.op==4)=false:=zzB.2 h4;clear h5 h9 h15 h18 h19 h20 h21 h24 h31 h16 h17 h32 h33 h4;go_in;go_wp2;go_ret;exact⟨zl E.out.symm,zzR _ _⟩
def dgt (m:Nat):UInt8:=UInt8.ofNat (48+m%10)
def zfH:Nat->Nat->List UInt8
 |0,_=>[]
 |f+1,m=>if m<10 then [dgt m]else zfH f (m/10)++ [dgt m]
def dig (m:Nat):List UInt8:=zfH (m+1) m
theorem zku: ∀(f g m:Nat),m<f->m<g->zfH f m=zfH g m
 |0,_,_,h,_=>absurd h (zzC _)
 |_,0,_,_,h=>absurd h (zzC _)
 |f+1,g+1,m,h1,h2=>by
  unfold zfH;by_cases h:m<10
  ·rw [if_pos h,if_pos h]
  ·rw [if_neg h,if_neg h,zku f g (m/10) (by omega) (by omega)]
theorem zeB {m:Nat} (h:m<10):dig m= [dgt m]:=by unfold dig zfH;rw [if_pos h]
theorem zgt {m:Nat} (h: ¬m<10):dig m=dig (m/10)++ [dgt m]:=by
 unfold dig;rw [show zfH (m+1) m=zfH m (m/10)++ [dgt m]by rw [zfH,if_neg h],zku m (m/10+1) (m/10) (by omega) (by omega)]
theorem zkt: ∀(k m:Nat),m<10^(k+1)->(dig m).length<=k+1
 |0,m,h=>by rw [zeB (by omega)];simp
 |k+1,m,h=>by
  by_cases hs:m<10
  ·rw [zeB hs];simp
  ·have:=zkt k (m/10) (by rw [Nat.pow_succ]at h;omega)
   rw [zgt hs];simp;omega
theorem znq {m:Nat} (h:m<=18446744073709551616):(dig m).length<=20:=zkt 19 m (by omega)
def txt (n:Int):List UInt8:=if n<0 then 45::dig n.natAbs else dig n.natAbs
def zc8 (cs:List UInt8):Array Value:=(cs.map fun b=>Value.int .u8 (b.toNat:Int)).toArray
theorem zeE {cs:List UInt8} {j:Nat} (h:j<cs.length):(zc8 cs)[j]?=some (.int .u8 (cs[j].toNat:Int)):=by
 simp [zc8,h]
theorem zfS (cs:List UInt8) (j:Nat) (d:UInt8):(zc8 cs).setIfInBounds j (.int .u8 (d.toNat:Int))=zc8 (cs.set j d):=by
 simp [zc8,List.map_set]
theorem zmb (m:Nat):((dgt m).toNat:Int)=48+(m:Int)%10:=by
 unfold dgt;have h:(UInt8.ofNat (48+m%10)).toNat=(48+m%10)%256:=UInt8.toNat_ofNat';rw [h];omega
theorem ziw (cs:List UInt8) (k:Nat) (d:UInt8) (h:k<cs.length):(cs.set k d).drop k=d::cs.drop (k+1):=by
 rw [List.drop_eq_getElem_cons (by simpa using h),List.drop_set_of_lt (by omega)];simp
theorem zqU (j:Nat):(10:Nat)^(j+1)=10^j*10:=Nat.pow_succ ..
theorem znJ (a:Int) (w:World) (ha:I64 a):
  Calls Tryz.prog 126 #[.int .i64 a] w fun e w'=>e= .returned (.int .u64 a.natAbs)/\w=w':=by
 obtain⟨a1,a2⟩:=ha;go_in;go_wp2
 ·go_ret
  exact⟨zcF (by
    have:a<0:=by assumption
    rw [IntKind.wrap_u64,IntKind.wrap_u64];omega),rfl⟩
 ·go_ret
  exact⟨zcF (by
    have:0<=a:=by assumption
    omega),rfl⟩
theorem zkq (B:Nat) (l:Int) (k:Nat) (hl:l=k) (hk:k<20) (w:World):
  (Instr.sliceAt 179 (.pointer (some ⟨B,0,none⟩)) (some (.int .i64 l)) none none).run Tryz.prog w= .ok (.slice (some ⟨B,k,none⟩) (20-k) (20-k)) w:=by
 subst hl;have e:Tryz.prog.arrayLen 179=20:=by kernel_rfl
 have ee:Tryz.prog.elem 179=5:=by kernel_rfl
 rw [run_sliceAt_array_l w 179 ⟨B,0,none⟩ (by rw [e,ee];exact Tryz.underlying179) .i64 k (by omega) (by rw [e];omega),e,ee];simp [go_sem,slicedAt,Addr.add];rw [if_neg (by omega)];split<;>simp_all
theorem zmu (B k L:Nat) (hL:L=20-k) (l cs:List UInt8) (w:World) (hh:w.heap[B]?=some (.cells (zc8 cs) 179 (0,0))) (hl:cs.length=20) (e:l=cs.drop k):
  (convert 168 9 (.slice (some ⟨B,k,none⟩) L L)).run Tryz.prog w= .ok (.string ⟨l.toArray⟩) w:=by
 subst e hL
 have:=run_convert_bytes_back (P:=Tryz.prog) w 168 9 5 ⟨B,k,none⟩ (20-k) (cs.drop k) Tryz.underlying168 Tryz.underlying5 Tryz.underlying9 (fun j hj=>by
  have hp:(⟨B,k,none⟩:Addr).add j=⟨B,k+j,none⟩:=by unfold Addr.add;split<;>simp_all
  rw [hp,zzq0 _ _ _ _ _ _ hh,zeE (by simp at hj;omega)];simp)
 rw [List.length_drop,hl]at this;exact this
theorem zoC (n:Int) (w:World) (hn:I64 n):
  Calls Tryz.prog 94 #[.int .i64 n] w fun e w'=>e= .returned (.string ⟨(txt n).toArray⟩)/\Below w.heap.size w w':=by
 go_in;go_wp2_with (go_at_call 126;refine(znJ _ _ hn).mono ?_;rintro e w1 ⟨rfl,rfl⟩);go_loopw [4,5] (fun v l wr=> ∃(k m:Nat) (cs:List UInt8),v= .int .i64 k/\l= .int .u64 m/\2<=k/\k<=20/\m<10^(k-1)/\m<=9223372036854775808/\cs.length=20/\wr.heap[w.heap.size]?=some (.cells (zc8 cs) 179 (0,0))/\Below w.heap.size w wr/\Hid (dig n.natAbs=dig m++cs.drop k)) (fun v _ _=>(intOf v).toNat)
 case atStart=>exact⟨20,n.natAbs,List.replicate 20 0,rfl,rfl,by omega,by omega,by have:=hn.1;have:=hn.2;omega,by have:=hn.1;have:=hn.2;omega,rfl,zzF _ _,zzE _ _,by simp [Hid]⟩
 case round=>
  obtain⟨k,m,cs,rfl,rfl,hk1,hk2,hm,hm2,hl,hh,hB,HD⟩:=hrel;obtain⟨j,rfl⟩: ∃j,k=j+2:=⟨k-2,by omega⟩;rename World=>wr
  have HM:=zzH hm;clear hm;have HL:=zzH hl;clear hl;have hcell:wr.cell? ⟨w.heap.size,j+1,none⟩=some (.int .u8 (cs[j+1]'(by rw [HL.out];omega)).toNat):=by rw [zzq0 _ _ _ _ _ _ hh];exact zeE _
  have hcell0:wr.cell? ⟨w.heap.size,j,none⟩=some (.int .u8 (cs[j]'(by rw [HL.out];omega)).toNat):=by rw [zzq0 _ _ _ _ _ _ hh];exact zeE _
  have hfz0:wr.frozen? ⟨w.heap.size,j,none⟩=false:=zzq5 _ _ _ _ _ hh;have hfz:wr.frozen? ⟨w.heap.size,j+1,none⟩=false:=zzq5 _ _ _ _ _ hh
  have hh1:(wr.setCell ⟨w.heap.size,j+1,none⟩ (.int .u8 (48+(m:Int)%10))).heap[w.heap.size]?=some (.cells (zc8 (cs.set (j+1) (dgt m))) 179 (0,0)):=by
   rw [zzq17 _ _ _ _ _ _ hh,<-zmb,zfS]
  have hd1:(cs.set (j+1) (dgt m)).drop (j+1)=dgt m::cs.drop (j+2):=ziw _ _ _ (by rw [HL.out];omega);have hl1:(cs.set (j+1) (dgt m)).length=20:=by rw [List.length_set];exact HL.out
  have hB1:Below w.heap.size w (wr.setCell ⟨w.heap.size,j+1,none⟩ (.int .u8 (48+(m:Int)%10))):=hB.setCell (zzL _) _;refine zzK4 hh hh1 hd1 hl1 fun HH HH1 HD1 HL1=>?_;clear hh hh1 hd1 hl1;by_cases small:m<10
  ·have hdm:=zeB small
   have HDM:=zzH hdm;clear hdm;have HT:Hid (dig n.natAbs=dgt m::cs.drop (j+2)):=by have:=HD.out;rw [HDM.out]at this;exact this
   by_cases neg:n<0
   ·have hh2:((wr.setCell ⟨w.heap.size,j+1,none⟩ (.int .u8 (48+(m:Int)%10))).setCell ⟨w.heap.size,j,none⟩ (.int .u8 45)).heap[w.heap.size]?=some (.cells (zc8 ((cs.set (j+1) (dgt m)).set j 45)) 179 (0,0)):=by
     exact(zzS _ _ _ _ _ _ HH1.out).trans (congrArg (fun x=>some (Obj.cells x 179 (0,0))) (zfS _ j 45))
    have hcv:=zmu w.heap.size j (20-j) rfl (txt n) _ _ hh2 (by rw [List.length_set];exact HL1.out) (by rw [ziw _ _ _ (by rw [HL1.out];omega),HD1.out,txt,if_pos neg,HT.out]);have hsl:=zkq w.heap.size ((j:Int)+2-1-1) j (by omega) (by omega);clear hh2;go_wp2;go_ret;exact⟨rfl,hB1.setCell (zzL _) _⟩
   ·have hcv:=zmu w.heap.size (j+1) (19-j) (by omega) (txt n) _ _ HH1.out HL1.out (by rw [HD1.out,txt,if_neg neg,HT.out])
    have hsl:=zkq w.heap.size ((j:Int)+2-1) (j+1) (by omega) (by omega);go_wp2;go_ret;exact⟨rfl,hB1⟩
  ·have hdm:=zgt small
   have HDM:=zzH hdm;clear hdm;go_wp2;go_roundw
   case rel=>
    have hj:1<=j:=by
     rcases Nat.eq_zero_or_pos j with h|h
     ·have:=HM.out;subst h;omega
     ·exact h
    refine⟨j+1,m/10,cs.set (j+1) (dgt m),by go_num,by go_num,by omega,by omega,?_,by omega,HL1.out,HH1.out,hB1,?_⟩
    ·have:=HM.out
     obtain⟨i,rfl⟩: ∃i,j=i+1:=⟨j-1,by omega⟩;rw [show i+1+2-1=i+1+1 by omega,zqU]at this;rw [show i+1+1-1=i+1 by omega];omega
    ·exact zzH (by rw [HD.out,HDM.out,HD1.out,zzq20];rfl)
   case measure=>simp [intOf];omega
open Go.Shelf
def Tryz.lays106_ren:Go.Shelf.Ren:=⟨fun|106=>150|213=>192|265=>206|n=>n,fun|9=>9|3=>3|n=>n,fun|n=>n⟩
theorem Tryz.lays106:Go.Proofs.Lays.n106 Tryz.prog Tryz.lays106_ren:={
 mixed:=by kernel_rfl
 f106:=Tryz.func150.trans (congrArg some (by kernel_rfl))
 f213:=Tryz.func192.trans (congrArg some (by kernel_rfl))
 f265:=Tryz.func206.trans (congrArg some (by kernel_rfl))
 t3:=Tryz.underlying3
 a3:=Tryz.isAgg3
 z3:=Tryz.sizeOf3
 v3:=Tryz.zeroValue3
 t9:=Tryz.underlying9
 a9:=Tryz.isAgg9
 z9:=Tryz.sizeOf9
 v9:=Tryz.zeroValue9}
open Go.RowKit in
theorem Tryz.strings_Compare (a b:ByteArray) (w:World):
  Calls Tryz.prog 150 #[.string a,.string b] w fun e w'=>e= .returned (.int .i64 (Lib.compareBytes a.data.toList b.data.toList))/\w'=w:=Any.strings_Compare Tryz.lays106 a b w
def Tryz.lays122_ren:Go.Shelf.Ren:=⟨fun|122=>145|215=>189|n=>n,fun|3=>3|4=>4|n=>n,fun|n=>n⟩
theorem Tryz.lays122:Go.Proofs.Lays.n122 Tryz.prog Tryz.lays122_ren:={
 mixed:=by kernel_rfl
 f122:=Tryz.func145.trans (congrArg some (by kernel_rfl))
 f215:=Tryz.func189.trans (congrArg some (by kernel_rfl))
 t3:=Tryz.underlying3
 a3:=Tryz.isAgg3
 z3:=Tryz.sizeOf3
 v3:=Tryz.zeroValue3
 t4:=Tryz.underlying4
 a4:=Tryz.isAgg4
 z4:=Tryz.sizeOf4
 v4:=Tryz.zeroValue4}
open Go.RowKit in
theorem Tryz.cmp_Compare_int (x y:Int) (w:World):
  Calls Tryz.prog 145 #[.int .i64 x,.int .i64 y] w fun e w'=>e= .returned (.int .i64 (Lib.compareInt x y))/\w'=w:=Any.cmp_Compare_int Tryz.lays122 x y w
def Tryz.lays144_ren:Go.Shelf.Ren:=⟨fun|144=>92|143=>123|219=>142|217=>184|225=>185|224=>186|267=>187|266=>201|314=>202|n=>n,fun|9=>9|4=>4|3=>3|5=>5|46=>185|146=>236|51=>210|n=>n,fun|1=>2|n=>n⟩
theorem Tryz.lays144:Go.Proofs.Lays.n144 Tryz.prog Tryz.lays144_ren:={
 mixed:=by kernel_rfl
 f143:=Tryz.func123.trans (congrArg some (by kernel_rfl))
 f144:=Tryz.func92.trans (congrArg some (by kernel_rfl))
 f217:=Tryz.func184.trans (congrArg some (by kernel_rfl))
 f219:=Tryz.func142.trans (congrArg some (by kernel_rfl))
 f224:=Tryz.func186.trans (congrArg some (by kernel_rfl))
 f225:=Tryz.func185.trans (congrArg some (by kernel_rfl))
 f266:=Tryz.func201.trans (congrArg some (by kernel_rfl))
 f267:=Tryz.func187.trans (congrArg some (by kernel_rfl))
 f314:=Tryz.func202.trans (congrArg some (by kernel_rfl))
 t3:=Tryz.underlying3
 a3:=Tryz.isAgg3
 z3:=Tryz.sizeOf3
 v3:=Tryz.zeroValue3
 t4:=Tryz.underlying4
 a4:=Tryz.isAgg4
 z4:=Tryz.sizeOf4
 v4:=Tryz.zeroValue4
 t5:=Tryz.underlying5
 a5:=Tryz.isAgg5
 z5:=Tryz.sizeOf5
 v5:=Tryz.zeroValue5
 t9:=Tryz.underlying9
 a9:=Tryz.isAgg9
 z9:=Tryz.sizeOf9
 v9:=Tryz.zeroValue9
 t46:=Tryz.underlying185
 a46:=Tryz.isAgg185
 z46:=Tryz.sizeOf185
 v46:=Tryz.zeroValue185
 t51:=Tryz.underlying210
 a51:=Tryz.isAgg210
 z51:=Tryz.sizeOf210
 v51:=Tryz.zeroValue210
 t146:=Tryz.underlying236
 a146:=Tryz.isAgg236
 z146:=Tryz.sizeOf236
 v146:=Tryz.zeroValue236
 g1:=by kernel_rfl}
open Go.RowKit Go.Lib in
theorem Tryz.strings_Contains_one (s:ByteArray) (c:UInt8) (w:World):
  Calls Tryz.prog 92 #[.string s,.string ⟨#[c]⟩] w fun e w'=>e= .returned (.bool (decide (0<=Lib.indexByte s.data.toList c)))/\w'=w:=Any.strings_Contains_one Tryz.lays144 s c w
def Tryz.lays189_ren:Go.Shelf.Ren:=⟨fun|189=>107|125=>130|257=>129|128=>161|129=>162|294=>152|295=>153|296=>154|297=>155|298=>156|299=>157|216=>158|300=>159|301=>160|328=>194|329=>195|330=>196|331=>197|332=>198|215=>189|343=>207|n=>n,fun|28=>38|3=>3|46=>185|0=>0|51=>210|53=>180|4=>4|183=>203|182=>202|131=>138|5=>5|9=>9|218=>228|222=>232|228=>250|229=>251|n=>n,fun|n=>n⟩
theorem Tryz.lays189:Go.Proofs.Lays.n189 Tryz.prog Tryz.lays189_ren:={
 mixed:=by kernel_rfl
 f125:=Tryz.func130.trans (congrArg some (by kernel_rfl))
 f128:=Tryz.func161.trans (congrArg some (by kernel_rfl))
 f129:=Tryz.func162.trans (congrArg some (by kernel_rfl))
 f189:=Tryz.func107.trans (congrArg some (by kernel_rfl))
 f215:=Tryz.func189.trans (congrArg some (by kernel_rfl))
 f216:=Tryz.func158.trans (congrArg some (by kernel_rfl))
 f257:=Tryz.func129.trans (congrArg some (by kernel_rfl))
 f294:=Tryz.func152.trans (congrArg some (by kernel_rfl))
 f295:=Tryz.func153.trans (congrArg some (by kernel_rfl))
 f296:=Tryz.func154.trans (congrArg some (by kernel_rfl))
 f297:=Tryz.func155.trans (congrArg some (by kernel_rfl))
 f298:=Tryz.func156.trans (congrArg some (by kernel_rfl))
 f299:=Tryz.func157.trans (congrArg some (by kernel_rfl))
 f300:=Tryz.func159.trans (congrArg some (by kernel_rfl))
 f301:=Tryz.func160.trans (congrArg some (by kernel_rfl))
 f328:=Tryz.func194.trans (congrArg some (by kernel_rfl))
 f329:=Tryz.func195.trans (congrArg some (by kernel_rfl))
 f330:=Tryz.func196.trans (congrArg some (by kernel_rfl))
 f331:=Tryz.func197.trans (congrArg some (by kernel_rfl))
 f332:=Tryz.func198.trans (congrArg some (by kernel_rfl))
 f343:=Tryz.func207.trans (congrArg some (by kernel_rfl))
 t0:=Tryz.underlying0
 a0:=Tryz.isAgg0
 z0:=Tryz.sizeOf0
 v0:=Tryz.zeroValue0
 t3:=Tryz.underlying3
 a3:=Tryz.isAgg3
 z3:=Tryz.sizeOf3
 v3:=Tryz.zeroValue3
 t4:=Tryz.underlying4
 a4:=Tryz.isAgg4
 z4:=Tryz.sizeOf4
 v4:=Tryz.zeroValue4
 t5:=Tryz.underlying5
 a5:=Tryz.isAgg5
 z5:=Tryz.sizeOf5
 v5:=Tryz.zeroValue5
 t9:=Tryz.underlying9
 a9:=Tryz.isAgg9
 z9:=Tryz.sizeOf9
 v9:=Tryz.zeroValue9
 t28:=Tryz.underlying38
 a28:=Tryz.isAgg38
 z28:=Tryz.sizeOf38
 v28:=Tryz.zeroValue38
 t46:=Tryz.underlying185
 a46:=Tryz.isAgg185
 z46:=Tryz.sizeOf185
 v46:=Tryz.zeroValue185
 t51:=Tryz.underlying210
 a51:=Tryz.isAgg210
 z51:=Tryz.sizeOf210
 v51:=Tryz.zeroValue210
 t53:=Tryz.underlying180
 a53:=Tryz.isAgg180
 z53:=Tryz.sizeOf180
 v53:=Tryz.zeroValue180
 t131:=Tryz.underlying138
 a131:=Tryz.isAgg138
 z131:=Tryz.sizeOf138
 v131:=Tryz.zeroValue138
 t182:=Tryz.underlying202
 a182:=Tryz.isAgg202
 z182:=Tryz.sizeOf202
 v182:=Tryz.zeroValue202
 t183:=Tryz.underlying203
 a183:=Tryz.isAgg203
 z183:=Tryz.sizeOf203
 v183:=Tryz.zeroValue203
 t218:=Tryz.underlying228
 a218:=Tryz.isAgg228
 z218:=Tryz.sizeOf228
 v218:=Tryz.zeroValue228
 t222:=Tryz.underlying232
 a222:=Tryz.isAgg232
 z222:=Tryz.sizeOf232
 v222:=Tryz.zeroValue232
 t228:=Tryz.underlying250
 a228:=Tryz.isAgg250
 z228:=Tryz.sizeOf250
 v228:=Tryz.zeroValue250
 t229:=Tryz.underlying251
 a229:=Tryz.isAgg251
 z229:=Tryz.sizeOf251
 v229:=Tryz.zeroValue251}
open Go.Sort Go.RowKit in
theorem Tryz.slices_Sort_int (blk off cap:Nat) (zs:List Int) (w:World) (hH:Holds (Value.int .i64) w blk off zs.toArray) (hblk:blk<w.heap.size) (hsz:zs.length<4611686018427387904):
  Calls Tryz.prog 107 #[.slice (some ⟨blk,off,none⟩) zs.length cap] w fun e w'=>
   e= .returned (.tuple #[])/\ ∃n os,w'=grow (putRow (Value.int .i64) (Sort.ahead w n) blk off (zs.mergeSort fun x y=>decide (x<=y)).toArray) os:=Any.slices_Sort_int Tryz.lays189 blk off cap zs w hH hblk hsz
def Tryz.lays157_ren:Go.Shelf.Ren:=⟨fun|157=>125|229=>143|199=>144|261=>188|311=>203|312=>204|n=>n,fun|9=>9|31=>176|3=>3|5=>5|4=>4|119=>197|0=>0|40=>199|152=>220|21=>21|154=>222|51=>210|141=>224|196=>241|193=>238|198=>244|49=>242|194=>239|201=>247|226=>253|46=>185|227=>254|n=>n,fun|0=>1|6=>3|n=>n⟩
theorem Tryz.lays157:Go.Proofs.Lays.n157 Tryz.prog Tryz.lays157_ren:={
 mixed:=by kernel_rfl
 f157:=Tryz.func125.trans (congrArg some (by kernel_rfl))
 f199:=Tryz.func144.trans (congrArg some (by kernel_rfl))
 f229:=Tryz.func143.trans (congrArg some (by kernel_rfl))
 f261:=Tryz.func188.trans (congrArg some (by kernel_rfl))
 f311:=Tryz.func203.trans (congrArg some (by kernel_rfl))
 f312:=Tryz.func204.trans (congrArg some (by kernel_rfl))
 t0:=Tryz.underlying0
 a0:=Tryz.isAgg0
 z0:=Tryz.sizeOf0
 v0:=Tryz.zeroValue0
 t3:=Tryz.underlying3
 a3:=Tryz.isAgg3
 z3:=Tryz.sizeOf3
 v3:=Tryz.zeroValue3
 t4:=Tryz.underlying4
 a4:=Tryz.isAgg4
 z4:=Tryz.sizeOf4
 v4:=Tryz.zeroValue4
 t5:=Tryz.underlying5
 a5:=Tryz.isAgg5
 z5:=Tryz.sizeOf5
 v5:=Tryz.zeroValue5
 t9:=Tryz.underlying9
 a9:=Tryz.isAgg9
 z9:=Tryz.sizeOf9
 v9:=Tryz.zeroValue9
 t21:=Tryz.underlying21
 a21:=Tryz.isAgg21
 z21:=Tryz.sizeOf21
 v21:=Tryz.zeroValue21
 t31:=Tryz.underlying176
 a31:=Tryz.isAgg176
 z31:=Tryz.sizeOf176
 v31:=Tryz.zeroValue176
 t40:=Tryz.underlying199
 a40:=Tryz.isAgg199
 z40:=Tryz.sizeOf199
 v40:=Tryz.zeroValue199
 t46:=Tryz.underlying185
 a46:=Tryz.isAgg185
 z46:=Tryz.sizeOf185
 v46:=Tryz.zeroValue185
 t49:=Tryz.underlying242
 a49:=Tryz.isAgg242
 z49:=Tryz.sizeOf242
 v49:=Tryz.zeroValue242
 t51:=Tryz.underlying210
 a51:=Tryz.isAgg210
 z51:=Tryz.sizeOf210
 v51:=Tryz.zeroValue210
 t119:=Tryz.underlying197
 a119:=Tryz.isAgg197
 z119:=Tryz.sizeOf197
 t141:=Tryz.underlying224
 a141:=Tryz.isAgg224
 z141:=Tryz.sizeOf224
 v141:=Tryz.zeroValue224
 t152:=Tryz.underlying220
 a152:=Tryz.isAgg220
 z152:=Tryz.sizeOf220
 v152:=Tryz.zeroValue220
 t154:=Tryz.underlying222
 a154:=Tryz.isAgg222
 z154:=Tryz.sizeOf222
 v154:=Tryz.zeroValue222
 t193:=Tryz.underlying238
 a193:=Tryz.isAgg238
 z193:=Tryz.sizeOf238
 v193:=Tryz.zeroValue238
 t194:=Tryz.underlying239
 a194:=Tryz.isAgg239
 z194:=Tryz.sizeOf239
 v194:=Tryz.zeroValue239
 t196:=Tryz.underlying241
 a196:=Tryz.isAgg241
 z196:=Tryz.sizeOf241
 v196:=Tryz.zeroValue241
 t198:=Tryz.underlying244
 a198:=Tryz.isAgg244
 z198:=Tryz.sizeOf244
 v198:=Tryz.zeroValue244
 t201:=Tryz.underlying247
 a201:=Tryz.isAgg247
 z201:=Tryz.sizeOf247
 v201:=Tryz.zeroValue247
 t226:=Tryz.underlying253
 a226:=Tryz.isAgg253
 z226:=Tryz.sizeOf253
 v226:=Tryz.zeroValue253
 t227:=Tryz.underlying254
 a227:=Tryz.isAgg254
 z227:=Tryz.sizeOf254
 v227:=Tryz.zeroValue254
 g0:=by kernel_rfl
 g6:=by kernel_rfl}
open Go.RowKit Go.Lib in
theorem Tryz.strings_Fields (s:ByteArray) (w:World) (hs:s.size<4294967281) (hascii: ∀(j:Nat) b,s.data.toList[j]?=some b->b.toNat<128) (htab:Lib.TabIs Tryz.prog w "strings.asciiSpace" .u8 Lib.asciiSpaceTab):
  Calls Tryz.prog 125 #[.string s] w fun e w'=>
   e= .returned (.slice (some ⟨w.heap.size,0,none⟩) (Lib.fields s.data.toList).length (Lib.fields s.data.toList).length)/\w'=w.alloc (.cells ((Lib.fields s.data.toList).map fun l=>Value.string ⟨l.toArray⟩).toArray 9):=Any.strings_Fields Tryz.lays157 (by kernel_rfl) (by kernel_rfl) s w hs hascii htab
def Tryz.lays111_ren:Go.Shelf.Ren:=⟨fun|111=>96|n=>n,fun|28=>38|3=>3|4=>4|0=>0|n=>n,fun|n=>n⟩
theorem Tryz.lays111:Go.Proofs.Lays.n111 Tryz.prog Tryz.lays111_ren:={
 mixed:=by kernel_rfl
 f111:=Tryz.func96.trans (congrArg some (by kernel_rfl))
 t0:=Tryz.underlying0
 a0:=Tryz.isAgg0
 z0:=Tryz.sizeOf0
 v0:=Tryz.zeroValue0
 t3:=Tryz.underlying3
 a3:=Tryz.isAgg3
 z3:=Tryz.sizeOf3
 v3:=Tryz.zeroValue3
 t4:=Tryz.underlying4
 a4:=Tryz.isAgg4
 z4:=Tryz.sizeOf4
 v4:=Tryz.zeroValue4
 t28:=Tryz.underlying38
 a28:=Tryz.isAgg38
 z28:=Tryz.sizeOf38
 v28:=Tryz.zeroValue38}
open Go.RowKit Go.Lib in
theorem Tryz.slices_Equal_int (b1 o1 n c b2 o2 m d:Nat) (xs ys:List Int) (w:World) (hx:n<=xs.length) (hy:m<=ys.length) (hbig:n<=9223372036854775807) (hbig2:m<=9223372036854775807) (hc1: ∀j,j<xs.length->w.cell? ⟨b1,o1+j,none⟩=some (.int .i64 (xs.getD j 0))) (hc2: ∀j,j<ys.length->w.cell? ⟨b2,o2+j,none⟩=some (.int .i64 (ys.getD j 0))):
  Calls Tryz.prog 96 #[.slice (some ⟨b1,o1,none⟩) n c,.slice (some ⟨b2,o2,none⟩) m d] w fun e w'=>e= .returned (.bool (xs.take n==ys.take m))/\ ∃q,w'=w.drewN q:=Any.slices_Equal_int Tryz.lays111 b1 o1 n c b2 o2 m d xs ys w hx hy hbig hbig2 hc1 hc2
open Go.RowKit Go.Lib in
theorem Tryz.slices_Equal_int_empty (a1 a2:zzA) (c m d:Nat) (w:World) (hbig2:m<=9223372036854775807):
  Calls Tryz.prog 96 #[.slice a1 0 c,.slice a2 m d] w fun e w'=>e= .returned (.bool (decide (m=0)))/\w'=w:=Any.slices_Equal_int_empty Tryz.lays111 a1 a2 c m d w hbig2
def Tryz.laysNm215_ren:Go.Shelf.Ren:=⟨fun|15=>19|n=>n,fun|22=>38|3=>3|4=>4|n=>n,fun|n=>n⟩
theorem Tryz.laysNm215:Go.Proofs.Lays2.n15 Tryz.prog Tryz.laysNm215_ren:={
 mixed:=by kernel_rfl
 f15:=Tryz.func19.trans (congrArg some (by kernel_rfl))
 t3:=Tryz.underlying3
 a3:=Tryz.isAgg3
 z3:=Tryz.sizeOf3
 v3:=Tryz.zeroValue3
 t4:=Tryz.underlying4
 a4:=Tryz.isAgg4
 z4:=Tryz.sizeOf4
 v4:=Tryz.zeroValue4
 t22:=Tryz.underlying38
 a22:=Tryz.isAgg38
 z22:=Tryz.sizeOf38
 v22:=Tryz.zeroValue38
 i3:=by kernel_rfl}
open Go.RowKit Go.Lib in
theorem Tryz.slices_Clone_int (b off n c:Nat) (zs:List Int) (w:World) (hz:n<=zs.length) (hbig:n*8<=140737488355328) (hc: ∀j,j<zs.length->w.cell? ⟨b,off+j,none⟩=some (.int .i64 (zs.getD j 0))):
  Calls Tryz.prog 19 #[.slice (some ⟨b,off,none⟩) n c] w fun e w'=> ∃v',e= .returned v'/\w'.ownsRow w.heap.size 3 1 v' n ((zs.take n).map (Value.int .i64))/\v'≠ .slice none 0 0/\Below w.heap.size w w':=Any.slices_Clone_int Tryz.laysNm215 b off n c zs w hz hbig hc
open Go.RowKit Go.Lib in
theorem Tryz.slices_Clone_int_nil (n c:Nat) (w:World):
  Calls Tryz.prog 19 #[.slice none n c] w fun e w'=>e= .returned (.slice none 0 0)/\w'=w:=Any.slices_Clone_int_nil Tryz.laysNm215 n c w
open Go.RowKit Go.Lib in
theorem Tryz.slices_Clone_int_zero (a:Addr) (c:Nat) (w:World):
  Calls Tryz.prog 19 #[.slice (some a) 0 c] w fun e w'=> ∃v',e= .returned v'/\w'.ownsRow w.heap.size 3 1 v' 0 []/\v'≠ .slice none 0 0/\Below w.heap.size w w':=Any.slices_Clone_int_zero Tryz.laysNm215 a c w
def Tryz.laysNm220_ren:Go.Shelf.Ren:=⟨fun|20=>108|n=>n,fun|22=>38|3=>3|4=>4|0=>0|n=>n,fun|n=>n⟩
theorem Tryz.laysNm220:Go.Proofs.Lays2.n20 Tryz.prog Tryz.laysNm220_ren:={
 mixed:=by kernel_rfl
 f20:=Tryz.func108.trans (congrArg some (by kernel_rfl))
 t0:=Tryz.underlying0
 a0:=Tryz.isAgg0
 z0:=Tryz.sizeOf0
 v0:=Tryz.zeroValue0
 t3:=Tryz.underlying3
 a3:=Tryz.isAgg3
 z3:=Tryz.sizeOf3
 v3:=Tryz.zeroValue3
 t4:=Tryz.underlying4
 a4:=Tryz.isAgg4
 z4:=Tryz.sizeOf4
 v4:=Tryz.zeroValue4
 t22:=Tryz.underlying38
 a22:=Tryz.isAgg38
 z22:=Tryz.sizeOf38
 v22:=Tryz.zeroValue38
 i3:=by kernel_rfl}
open Go.RowKit Go.Lib Go.Sort in
theorem Tryz.slices_Compact_int (blk off cap:Nat) (zs:List Int) (w:World) (hH:Holds (Value.int .i64) w blk off zs.toArray) (hsz:zs.length<=9223372036854775807) (hcap:zs.length<=cap):
  Calls Tryz.prog 108 #[.slice (some ⟨blk,off,none⟩) zs.length cap] w fun e w'=>e= .returned (.slice (some ⟨blk,off,none⟩) (Lib.compact zs).length cap)/\ ∃q,w'=putRow (Value.int .i64) (Sort.ahead w q) blk off (Lib.compact zs++List.replicate (zs.length-(Lib.compact zs).length) 0).toArray:=Any.slices_Compact_int Tryz.laysNm220 blk off cap zs w hH hsz hcap
open Go.RowKit Go.Lib Go.Sort in
theorem Tryz.slices_Compact_int_empty (a:zzA) (cap:Nat) (w:World):
  Calls Tryz.prog 108 #[.slice a 0 cap] w fun e w'=>e= .returned (.slice a 0 cap)/\w'=w:=Any.slices_Compact_int_empty Tryz.laysNm220 a cap w
open Go.RowKit Go.Sort in
theorem Tryz.slices_Sort_int_none (p:zzA) (cap:Nat) (w:World):
  Calls Tryz.prog 107 #[.slice p 0 cap] w fun e w'=>e= .returned (.tuple #[])/\w'=w:=Any.slices_Sort_int_none Tryz.lays189 p cap w
open Go.RowKit Go.Lib in
theorem Tryz.slices_Equal_int_lens (a1 a2:zzA) (n c m d:Nat) (w:World) (hnm:n≠m):
  Calls Tryz.prog 96 #[.slice a1 n c,.slice a2 m d] w fun e w'=>e= .returned (.bool false)/\w'=w:=Any.slices_Equal_int_lens Tryz.lays111 a1 a2 n c m d w hnm
open Go.RowKit Go.Maps Go.WideMaps
theorem zmr:Keyed Tryz.prog 9:=string_keyed Tryz.underlying9
theorem zqj (w:World):(zeroValue 3).run Tryz.prog w= .ok (.int .i64 0) w:=by kernel_rfl
def zfj (t:List UInt8->Int) (k:List UInt8) (c:Int):List UInt8->Int:=fun x=>if x=k then c else t x
def zcH (c:Int) (ws:List (List UInt8)) (t:List UInt8->Int):List UInt8->Int:=ws.foldl (fun t k=>zfj t k c) t
def zd1 (w:World) (M n:Nat) (t:List UInt8->Int):Prop:= ∃D:DataW Unit,w.ownsMap Tryz.prog 9 (plainElem Tryz.prog 3) M n D/\ ∀k:List UInt8,D.atKey (.string k) (.lit (.int .i64 0))= .lit (.int .i64 (t k))
theorem zmz (k:List UInt8):WideAt.IsKeyLit (.string k):=by unfold WideAt.IsKeyLit;simp
theorem znh {D:DataW Unit} {t:List UInt8->Int} (hD:IsMap D) (h: ∀k:List UInt8,D.atKey (.string k) (.lit (.int .i64 0))= .lit (.int .i64 (t k))) (x:List UInt8) (c:Int):
  ∀k:List UInt8,(D.put (.string x) (.lit (.int .i64 c))).atKey (.string k) (.lit (.int .i64 0))= .lit (.int .i64 (zfj t x c k)):=by
 intro k;unfold zfj;by_cases e:k=x
 ·rw [if_pos e,e,atKey_put_same hD (zmz x)]
 ·rw [if_neg e,atKey_put_other (by intro h2;injection h2 with h2;exact e h2)];exact h k
theorem zjt (c:Int) (ws:List (List UInt8)) (t:List UInt8->Int) {k:Nat} (h:k<ws.length):zcH c (ws.take (k+1)) t=zfj (zcH c (ws.take k) t) ws[k] c:=by
 unfold zcH;rw [List.take_add_one,zzq3 h,List.foldl_append];rfl
theorem zgl (c:Int) (s:ByteArray) (ws:List (List UInt8)) (B C M n:Nat) (t:List UInt8->Int) (w:World) (hws:Lib.fields s.data.toList=ws) (hc0:0<=c) (hc1:c<=10) (hs:s.size<4294967281) (hwl: ∀x∈ws,x.length<=1000) (hwn:ws.length<=1000) (hn:n<=1000000)
  (hascii: ∀(j:Nat) b,s.data.toList[j]?=some b->b.toNat<128) (htab:Lib.TabIs Tryz.prog w "strings.asciiSpace" .u8 Lib.asciiSpaceTab)
  (hB:B<=w.heap.size) (hBC:B<=C) (hBM:B<=M) (hCM:C≠M) (hC:w.heap[C]?=some (.cells #[.map (some M)] 153 (0,0))) (hM:zd1 w M n t):
  Calls Tryz.prog 124 #[.int .i64 c,.string s,.pointer (some ⟨C,0,none⟩)] w fun e w'=>e= .returned (.tuple #[])/\zd1 w' M (n+ws.length) (zcH c ws t)/\w'.heap[C]?=some (.cells #[.map (some M)] 153 (0,0))/\Below B w w':=by
 have HF:=fun w' h=>Tryz.strings_Fields s w' hs hascii h
 rw [hws]at HF;have HTab:=zzH htab;clear htab hws;have hMl:M<w.heap.size:=by obtain⟨D,h,_⟩:=hM;exact h.lt
 have hCl:=zd hC;go_in;go_wp2_with (go_at_call 125;refine(HF _ HTab.out).mono ?_;rintro e w1 ⟨rfl,rfl⟩);have hWd:=zzF w (.cells (ws.map fun l=>Value.string ⟨l.toArray⟩).toArray 9);have hC1:=(Below.heap_alloc w (.cells (ws.map fun l=>Value.string ⟨l.toArray⟩).toArray 9) C hCl).trans hC;have hB1:Below B w (w.alloc (.cells (ws.map fun l=>Value.string ⟨l.toArray⟩).toArray 9)):=(zzR _ _).alloc hB _
 have hM1:zd1 (w.alloc (.cells (ws.map fun l=>Value.string ⟨l.toArray⟩).toArray 9)) M n t:=by
  obtain⟨D,h,h2⟩:=hM;exact⟨D,h.alloc _,h2⟩
 generalize hW:w.alloc (.cells (ws.map fun l=>Value.string ⟨l.toArray⟩).toArray 9)=W at *;generalize hb:w.heap.size=b at *;go_loopw [10] (fun i wr=> ∃k:Nat,k<=ws.length/\i= .int .i64 k/\zd1 wr M (n+k) (zcH c (ws.take k) t)/\wr.heap[C]?=some (.cells #[.map (some M)] 153 (0,0))/\wr.heap[b]?=some (.cells (ws.map fun l=>Value.string ⟨l.toArray⟩).toArray 9 (0,0))/\Below B w wr) (fun i _=>ws.length-(intOf i).toNat)
 case atStart=>exact⟨0,zzZ _,rfl,hM1,hC1,hWd,hB1⟩
 case round=>
  obtain⟨k,hk,rfl,⟨D,hown,hD⟩,hCr,hbr,hBr⟩:=hrel;rename World=>wr
  by_cases hlt:k<ws.length
  ·have hcw:wr.cell? ⟨b,k,none⟩=some (.string ⟨ws[k].toArray⟩):=by rw [zzq0 _ _ _ _ _ _ hbr];simp [hlt]
   have hcC:wr.cell? ⟨C,0,none⟩=some (.map (some M)):=by rw [zzq0 _ _ _ _ _ _ hCr];rfl
   have hkey:keyOf Tryz.prog 9 (.string ⟨ws[k].toArray⟩)=some (.string ws[k]):=by
    have:=hwl _ (zzM hlt);exact keyOf_string_mk Tryz.underlying9 (by unfold maxLen;simp [ByteArray.size];omega)
   have hDM:=hown.isMap;have HP:=zzH (znh hDM hD ws[k] c);have HS:=zzH (zjt c ws t hlt);have hkl:=hwl _ (zzM hlt);generalize ws[k]=x at *
   go_wp2_with (first
    |(at_mapUpdate;refine wpList_mapUpdate_own _ rfl _ _ _ 153 rfl 9 3 zmr Tryz.underlying153 _ M (n+k) _ rfl hown (by unfold maxLen;omega) _ _ _ rfl rfl hkey _ [] (plainElem_int Tryz.underlying3 (WalkArith.wf_i64 (by omega))) ?_)
    |fail)
   intro w1 hown1 hgrow1;have hM2:zd1 w1 M (n+(k+1)) (zcH c (ws.take (k+1)) t):=⟨_,hown1,by rw [HS.out];exact HP.out⟩;have hC2:w1.heap[C]?=some (.cells #[.map (some M)] 153 (0,0)):=(hgrow1.block C (zd hCr) (fun e=>hCM (zzf e))).trans hCr
   have hb2:w1.heap[b]?=some (.cells (ws.map fun l=>Value.string ⟨l.toArray⟩).toArray 9 (0,0)):=(hgrow1.block b (zd hbr) (fun e=>by have:=zzf e;omega)).trans hbr
   have hB2:Below B w w1:=hBr.grown hgrow1 (by have:=hBr.size;omega) (fun j hj=>by cases hj;exact hBM);clear hown1 hgrow1 hown hcw hcC;go_wp2_with fail;go_roundw
   case rel=>exact⟨k+1,by omega,by go_num,hM2,hC2,hb2,hB2⟩
   case measure=>simp [intOf];omega
  ·obtain rfl:k=ws.length:=by omega
   have hMF:zd1 wr M (n+ws.length) (zcH c ws t):=⟨D,hown,by rw [List.take_length]at hD;exact hD⟩;clear hown;go_wp2_with fail
   (try simp only [Exit.inBlock,Exit.then])
   go_end0;exact⟨rfl,hMF,hCr,hBr⟩
open Go.RowKit Go.Maps Go.WideMaps
def words1:List (List UInt8):=[[105,115,95,105,110,116,101,103,101,114,47,49],[105,115,95,97,116,111,109,47,49],[105,115,95,98,111,111,108,101,97,110,47,49],[105,115,95,116,117,112,108,101,47,49],[105,115,95,112,105,100,47,49],[105,115,95,114,101,102,47,49],[105,115,95,108,105,115,116,47,49],[105,115,95,98,105,116,115,47,49],[105,115,95,98,121,116,101,115,47,49],[105,115,95,102,117,110,47,49],[105,115,95,102,117,110,47,50],[101,108,101,109,101,110,116,47,50],[115,105,122,101,47,49],[104,100,47,49],[116,108,47,49],[108,101,110,103,116,104,47,49],[98,105,116,95,115,105,122,101,47,49],[98,121,116,101,95,115,105,122,101,47,49],[97,98,115,47,49],[109,105,110,47,50],[109,97,120,47,50],[115,101,108,102,47,48],[110,111,100,101,47,48],[110,111,100,101,47,49]]
def zkH:List UInt8:=[105,115,95,105,110,116,101,103,101,114,47,49,32,105,115,95,97,116,111,109,47,49,32,105,115,95,98,111,111,108,101,97,110,47,49,32,105,115,95,116,117,112,108,101,47,49,32,105,115,95,112,105,100,47,49,32,105,115,95,114,101,102,47,49,32,105,115,95,108,105,115,116,47,49,32,105,115,95,98,105,116,115,47,49,32,105,115,95,98,121,116,101,115,47,49,32,105,115,95,102,117,110,47,49,32,105,115,95,102,117,110,47,50,32,101,108,101,109,101,110,116,47,50,32,115,105,122,101,47,49,32,104,100,47,49,32,116,108,47,49,32,108,101,110,103,116,104,47,49,32,98,105,116,95,115,105,122,101,47,49,32,98,121,116,101,95,115,105,122,101,47,49,32,97,98,115,47,49,32,109,105,110,47,50,32,109,97,120,47,50,32,115,101,108,102,47,48,32,110,111,100,101,47,48,32,110,111,100,101,47,49]
def words2:List (List UInt8):=[[115,101,116,101,108,101,109,101,110,116,47,51],[116,111,95,108,105,115,116,47,49],[116,111,95,116,117,112,108,101,47,49],[116,111,95,98,121,116,101,115,47,49],[102,114,111,109,95,98,121,116,101,115,47,49],[114,101,118,101,114,115,101,47,49],[109,101,109,98,101,114,47,50],[115,111,114,116,47,49],[112,97,99,107,47,49],[117,110,112,97,99,107,47,49],[101,114,114,111,114,47,49],[101,120,105,116,47,49],[116,104,114,111,119,47,49],[114,97,105,115,101,47,50]]
def zkB:List UInt8:=[115,101,116,101,108,101,109,101,110,116,47,51,32,116,111,95,108,105,115,116,47,49,32,116,111,95,116,117,112,108,101,47,49,32,116,111,95,98,121,116,101,115,47,49,32,102,114,111,109,95,98,121,116,101,115,47,49,32,114,101,118,101,114,115,101,47,49,32,109,101,109,98,101,114,47,50,32,115,111,114,116,47,49,32,112,97,99,107,47,49,32,117,110,112,97,99,107,47,49,32,101,114,114,111,114,47,49,32,101,120,105,116,47,49,32,116,104,114,111,119,47,49,32,114,97,105,115,101,47,50]
def words3:List (List UInt8):=[[115,112,97,119,110,47,49],[115,112,97,119,110,47,51],[115,112,97,119,110,95,108,105,110,107,47,49],[115,112,97,119,110,95,108,105,110,107,47,51],[115,112,97,119,110,95,109,111,110,105,116,111,114,47,49],[115,112,97,119,110,95,109,111,110,105,116,111,114,47,51],[114,101,113,117,101,115,116,47,52],[108,105,110,107,47,49],[117,110,108,105,110,107,47,49],[109,111,110,105,116,111,114,47,49],[100,101,109,111,110,105,116,111,114,47,49],[101,120,105,116,47,50],[116,114,97,112,47,49],[112,114,105,111,114,105,116,121,47,49],[114,101,103,105,115,116,101,114,47,50],[117,110,114,101,103,105,115,116,101,114,47,49],[119,104,101,114,101,105,115,47,49],[115,101,110,100,95,97,102,116,101,114,47,51],[99,97,110,99,101,108,47,49],[109,97,107,101,95,114,101,102,47,48],[99,108,111,99,107,47,48],[115,97,121,47,49],[110,111,100,101,115,47,48],[119,97,116,99,104,47,49],[117,110,119,97,116,99,104,47,49],[116,97,98,95,110,101,119,47,49],[116,97,98,95,112,117,116,47,51],[116,97,98,95,103,101,116,47,50],[116,97,98,95,100,101,108,47,50],[116,97,98,95,110,101,120,116,47,50],[116,97,98,95,115,105,122,101,47,49],[116,97,98,95,100,114,111,112,47,49]]
def zkz:List UInt8:=[115,112,97,119,110,47,49,32,115,112,97,119,110,47,51,32,115,112,97,119,110,95,108,105,110,107,47,49,32,115,112,97,119,110,95,108,105,110,107,47,51,32,115,112,97,119,110,95,109,111,110,105,116,111,114,47,49,32,115,112,97,119,110,95,109,111,110,105,116,111,114,47,51,32,114,101,113,117,101,115,116,47,52,32,108,105,110,107,47,49,32,117,110,108,105,110,107,47,49,32,109,111,110,105,116,111,114,47,49,32,100,101,109,111,110,105,116,111,114,47,49,32,101,120,105,116,47,50,32,116,114,97,112,47,49,32,112,114,105,111,114,105,116,121,47,49,32,114,101,103,105,115,116,101,114,47,50,32,117,110,114,101,103,105,115,116,101,114,47,49,32,119,104,101,114,101,105,115,47,49,32,115,101,110,100,95,97,102,116,101,114,47,51,32,99,97,110,99,101,108,47,49,32,109,97,107,101,95,114,101,102,47,48,32,99,108,111,99,107,47,48,32,115,97,121,47,49,32,110,111,100,101,115,47,48,32,119,97,116,99,104,47,49,32,117,110,119,97,116,99,104,47,49,32,116,97,98,95,110,101,119,47,49,32,116,97,98,95,112,117,116,47,51,32,116,97,98,95,103,101,116,47,50,32,116,97,98,95,100,101,108,47,50,32,116,97,98,95,110,101,120,116,47,50,32,116,97,98,95,115,105,122,101,47,49,32,116,97,98,95,100,114,111,112,47,49]
def words4:List (List UInt8):=[[97,112,112,108,121,47,50],[97,112,112,108,121,47,51]]
def zkA:List UInt8:=[97,112,112,108,121,47,50,32,97,112,112,108,121,47,51]
def zfk:List UInt8->Int:=zcH 4 words4 (zcH 3 words3 (zcH 2 words2 (zcH 1 words1 (fun _=>0))))
theorem zfz {l:List UInt8} (h:l.all (fun b=>decide (b.toNat<128))=true): ∀(j:Nat) b,l[j]?=some b->b.toNat<128:=fun j b hb=>by
 have:=zzp.1 h b (List.mem_of_getElem? hb)
 simpa using this
theorem zgm {ws:List (List UInt8)} (h:ws.all (fun x=>decide (x.length<=1000))=true): ∀x∈ws,x.length<=1000:=fun x hx=>by
 have:=zzp.1 h x hx
 simpa using this
theorem zm2:Lib.fields zkH=words1:=by kernel_rfl
theorem zm3:Lib.fields zkB=words2:=by kernel_rfl
theorem zmG:Lib.fields zkz=words3:=by kernel_rfl
theorem zm7:Lib.fields zkA=words4:=by kernel_rfl
def SpaceAt (w:World):Prop:=Lib.TabIs Tryz.prog w "strings.asciiSpace" .u8 Lib.asciiSpaceTab
theorem SpaceAt.below {w w':World} (h:SpaceAt w) (hb:Below w.heap.size w w'):SpaceAt w':=Joins.tab_stays (g:=1) (by kernel_rfl) h hb (zzL _)
theorem zjw (w:World) (hsp:SpaceAt w):Calls Tryz.prog 93 #[] w fun e w'=> ∃M,e= .returned (.map (some M))/\zd1 w' M 72 zfk/\Below w.heap.size w w':=by
 have hmm:= @run_makeMap Tryz.prog;have HS:=zzH hsp;go_in;go_wp2_with fail
 have hC0:((w.alloc (.map #[] 0)).alloc (.cells #[.map (some w.heap.size)] 153)).heap[w.heap.size+1]?=some (.cells #[.map (some w.heap.size)] 153 (0,0)):=by
  have h:=zzF (w.alloc (.map #[] 0)) (.cells #[.map (some w.heap.size)] 153)
  rwa [show(w.alloc (.map #[] 0)).heap.size=w.heap.size+1 by simp]at h
 have hM0:zd1 ((w.alloc (.map #[] 0)).alloc (.cells #[.map (some w.heap.size)] 153)) w.heap.size 0 (fun _=>0):=⟨_,(World.ownsMap_made _ _ _ _).alloc _,fun k=>rfl⟩;have hB0:Below w.heap.size w ((w.alloc (.map #[] 0)).alloc (.cells #[.map (some w.heap.size)] 153)):=(zzE _ _).alloc (by simp) _;have hS0:=zzH (hsp.below hB0);have hsz:w.heap.size<=((w.alloc (.map #[] 0)).alloc (.cells #[.map (some w.heap.size)] 153)).heap.size:=hB0.size;generalize(w.alloc (.map #[] 0)).alloc (.cells #[.map (some w.heap.size)] 153)=w0 at *;clear hmm;refine(zgl 1 _ words1 w.heap.size (w.heap.size+1) w.heap.size 0 (fun _=>0) w0 zm2 (by decide) (by decide) (by decide) (zgm (by kernel_rfl)) (by decide) (by decide) (zfz (l:=zkH) (by kernel_rfl)) hS0.out hsz (by omega) (zzL _) (by omega) hC0 hM0).mono ?_;rintro e w1 ⟨rfl,hM1,hC1,hB1'⟩;have hB1:Below w.heap.size w w1:=hB0.trans hB1';have hsz1:w.heap.size<=w1.heap.size:=hB1.size;have hS1:=zzH (hsp.below hB1);change zd1 w1 w.heap.size 24 _ at hM1;generalize ht1:zcH 1 words1 (fun _=>0)=t1 at hM1;have HT1:=zzH ht1;clear ht1 hM0 hC0 hB1' hB0 hsz;go_wp2_with fail;refine(zgl 2 _ words2 w.heap.size (w.heap.size+1) w.heap.size 24 t1 w1 zm3 (by decide) (by decide) (by decide) (zgm (by kernel_rfl)) (by decide) (by decide) (zfz (l:=zkB) (by kernel_rfl)) hS1.out hsz1 (by omega) (zzL _) (by omega) hC1 hM1).mono ?_;rintro e w2 ⟨rfl,hM2,hC2,hB2'⟩;have hB2:Below w.heap.size w w2:=hB1.trans hB2';have hsz2:w.heap.size<=w2.heap.size:=hB2.size;have hS2:=zzH (hsp.below hB2);change zd1 w2 w.heap.size 38 _ at hM2;generalize ht2:zcH 2 words2 t1=t2 at hM2;have HT2:=zzH ht2;clear ht2 hM1 hC1 hB2' hB1 hsz1;go_wp2_with fail;refine(zgl 3 _ words3 w.heap.size (w.heap.size+1) w.heap.size 38 t2 w2 zmG (by decide) (by decide) (by decide) (zgm (by kernel_rfl)) (by decide) (by decide) (zfz (l:=zkz) (by kernel_rfl)) hS2.out hsz2 (by omega) (zzL _) (by omega) hC2 hM2).mono ?_;rintro e w3 ⟨rfl,hM3,hC3,hB3'⟩;have hB3:Below w.heap.size w w3:=hB2.trans hB3';have hsz3:w.heap.size<=w3.heap.size:=hB3.size;have hS3:=zzH (hsp.below hB3);change zd1 w3 w.heap.size 70 _ at hM3;generalize ht3:zcH 3 words3 t2=t3 at hM3;have HT3:=zzH ht3;clear ht3 hM2 hC2 hB3' hB2 hsz2;go_wp2_with fail;refine(zgl 4 _ words4 w.heap.size (w.heap.size+1) w.heap.size 70 t3 w3 zm7 (by decide) (by decide) (by decide) (zgm (by kernel_rfl)) (by decide) (by decide) (zfz (l:=zkA) (by kernel_rfl)) hS3.out hsz3 (by omega) (zzL _) (by omega) hC3 hM3).mono ?_;rintro e w4 ⟨rfl,hM4,hC4,hB4'⟩;have hB4:Below w.heap.size w w4:=hB3.trans hB4';have hsz4:w.heap.size<=w4.heap.size:=hB4.size;have hS4:=zzH (hsp.below hB4);change zd1 w4 w.heap.size 72 _ at hM4;generalize ht4:zcH 4 words4 t3=t4 at hM4;have HT4:=zzH ht4;clear ht4 hM3 hC3 hB4' hB3 hsz3;have hc4:w4.cell? ⟨w.heap.size+1,0,none⟩=some (.map (some w.heap.size)):=by rw [zzq0 _ _ _ _ _ _ hC4];rfl
 go_wp2;go_ret;have e:zfk=t4:=by unfold zfk;rw [HT1.out,HT2.out,HT3.out,HT4.out]
 exact⟨_,rfl,by rw [e];exact hM4,hB4⟩
def zbx (s:ByteArray) (n:Int):Int:=if n<0\/0<=Lib.indexByte s.data.toList 47 then 0 else zfk (s.data.toList++ [47]++txt n)
theorem zpL {n:Int} (h:I64 n):(txt n).length<=21:=by
 unfold I64 at h;have:=znq (m:=n.natAbs) (by omega);unfold txt;split<;>simp<;>omega
theorem zf2 (s:ByteArray) (n:Int) (w:World) (hsp:SpaceAt w) (hs:s.size<=140737488355328) (hn:I64 n):Calls Tryz.prog 51 #[.string s,.int .i64 n] w fun e w'=>e= .returned (.int .i64 (zbx s n))/\Below w.heap.size w w':=by
 by_cases hneg:n<0
 ·have E:Hid (zbx s n=0):=zzH (by unfold zbx;rw [if_pos (.inl hneg)])
  go_in;go_wp2;go_ret;exact⟨zcF E.out.symm,zzR _ _⟩
 ·have HC:=Tryz.strings_Contains_one s 47
  by_cases hsl:0<=Lib.indexByte s.data.toList 47
  ·have E:Hid (zbx s n=0):=zzH (by unfold zbx;rw [if_pos (.inr hsl)])
   rw [decide_eq_true hsl]at HC;go_in;go_wp2_with (go_at_call 92;refine(HC _).mono ?_;rintro e w1 ⟨rfl,rfl⟩);go_ret;exact⟨zcF E.out.symm,zzR _ _⟩
  ·have E:Hid (zbx s n=zfk (s.data.toList++ [47]++txt n)):=zzH (by unfold zbx;rw [if_neg (by omega)])
   rw [decide_eq_false hsl]at HC;have HL:=zzH (zpL hn);go_in;have hsz:s.size+1+(txt n).length<=9223372036854775807:=by have:=HL.out;omega
   have HL2:Hid ((ByteArray.mk (s.data.toList++ [47]++txt n).toArray).size<=maxLen):=zzH (by
    have h1:(ByteArray.mk (s.data.toList++ [47]++txt n).toArray).size=s.size+1+(txt n).length:=by
     show(s.data.toList++ [47]++txt n).toArray.size=_;rw [List.size_toArray,zzq12,zzq12];rfl
    rw [h1];unfold maxLen;omega)
   have hky:keyOf Tryz.prog 9 (.string (s++⟨#[47]⟩++⟨(txt n).toArray⟩))=some (.string (s.data.toList++ [47]++txt n)):=by
    have h:=keyOf_string_mk (P:=Tryz.prog) (k:=9) (s:=⟨(s.data.toList++ [47]++txt n).toArray⟩) Tryz.underlying9 (HL2.out)
    have e:(⟨(s.data.toList++ [47]++txt n).toArray⟩:ByteArray)=s++⟨#[47]⟩++⟨(txt n).toArray⟩:=by
     apply ByteArray.ext;simp
    rwa [e]at h
   have HK:=zzH hky;clear hky;go_wp2_with (go_at_call 92;refine(HC _).mono ?_;rintro e w0 ⟨rfl,rfl⟩);refine(zjw _ hsp).mono ?_;rintro e w1 ⟨M,rfl,⟨D,hown,hD⟩,hB1⟩;go_wp2_with (go_at_call 94;refine(zoC n _ hn).mono ?_);rintro e w2 ⟨rfl,hB2⟩;have hown2:w2.ownsMap Tryz.prog 9 (plainElem Tryz.prog 3) M _ D:=hown.kept (row:=none) ⟨hB2.os,hB2.tape,hB2.output,hB2.size,fun k hk _=>hB2.block k hk⟩ (by simp);have hB12:Below w0.heap.size w0 w2:=ze hB1 hB2;have HD:=zzH (hD (s.data.toList++ [47]++txt n));clear hown hD HC;go_wp2_with (at_lookup;refine wpList_lookup_own_int _ rfl _ _ 153 rfl 9 3 .i64 zmr Tryz.underlying153 Tryz.underlying3 (zqj _) M 72 D rfl hown2 _ (.string (s.data.toList++ [47]++txt n)) rfl HK.out ?_);intro c hat hwc
   have E2:Hid (c=zbx s n):=zzH (by
    rw [E.out];have h1:=HD.out;simp only [zzq20,List.singleton_append]at h1 hat ⊢;have h:=h1.symm.trans hat;injection h with h;injection h with _ h;exact h.symm)
   clear hat hwc;go_wp2;go_ret;exact⟨zcF E2.out,hB12⟩
theorem zlk:(Rows.laid_stagehand_code_rows:DataW Unit)= .agg (rowT.map fun r=>.agg ([r.1,r.2.1,r.2.2].map fun z=>.lit (.int .i64 z))):=rfl
theorem rowsName:Tryz.prog.globalNamed "stagehand/code.rows" =some 0:=by kernel_rfl
theorem rowsType:(Tryz.prog.globals[0]?).map (·.type)=some 117:=by kernel_rfl
theorem ziJ:Tryz.prog.cellsOf 74=3:=by kernel_rfl
theorem zqt:Tryz.prog.cellsOf 3=1:=by kernel_rfl
theorem zis {W:World} (h:Lib.VarReads Tryz.prog W "stagehand/code.rows" Rows.laid_stagehand_code_rows):RowsAt W:=by
 obtain⟨g,t,cs,fuel,p,hg,ht,hv,hd⟩:=h;obtain rfl:=zzf (rowsName.symm.trans hg);obtain rfl:=zzf (rowsType.symm.trans ht);rw [zlk]at hd
 have hlt:0<W.heap.size:=by
  unfold World.var? at hv;rw [hg]at hv;simp only [Option.bind_some]at hv;split at hv
  ·rename_i h;exact(Array.getElem?_eq_some_iff.1 h).1
  ·cases hv
 refine⟨hlt,fun k hk=>?_⟩;obtain⟨f',d,q,h1,h2⟩:=Lib.array_elem Tryz.underlying117 hd k hk;rw [List.getElem?_map,zzq3 (by exact hk)]at h1;obtain rfl:=zzf h1
 have h3:=Lib.ints_of_struct Tryz.underlying74 (fun i f hf=>by
  have hi:=(Array.getElem?_eq_some_iff.1 hf).1;have hi:i<3:=hi;rcases(show i=0\/i=1\/i=2 by omega)with rfl|rfl|rfl
  all_goals
   obtain rfl:=zzf hf;exact⟨Tryz.underlying3,rfl,zqt⟩) ziJ h2
 rw [ziJ]at h3
 have hc: ∀i,i<3->cs[k*3+i]?=([(rowT[k]'hk).1,(rowT[k]'hk).2.1,(rowT[k]'hk).2.2].map fun z=>Value.int .i64 z)[i]?:=fun i hi=>by
  have h4:((cs.toList.drop (k*3)).take 3)[i]?=([(rowT[k]'hk).1,(rowT[k]'hk).2.1,(rowT[k]'hk).2.2].map fun z=>Value.int .i64 z)[i]?:=congrArg (fun l=>l[i]?) h3
  rw [List.getElem?_take_of_lt hi,List.getElem?_drop,Array.getElem?_toList]at h4;exact h4
 have hcell:=World.var?_cell hg hv;exact⟨(hcell (k*3)).trans (hc 0 (by decide)),(hcell (k*3+1)).trans (hc 1 (by decide)),(hcell (k*3+2)).trans (hc 2 (by decide))⟩
theorem zl4:Tryz.prog.globalNamed "strings.asciiSpace" =some 1:=by kernel_rfl
theorem znf:(Tryz.prog.globals[1]?).map (·.type)=some 197:=by kernel_rfl
theorem zlT:Tryz.prog.cellsOf 5=1:=by kernel_rfl
theorem zjQ:Tryz.prog.cellsOf 197=256:=by kernel_rfl
theorem zjA:(Rows.laid_strings_asciiSpace:DataW Unit)=Lib.tabData .u8 Lib.asciiSpaceTab:=by kernel_rfl
theorem zkG {W:World} {l:List (String × DataW Unit)} (h:laidMet Tryz.prog l W) (hm:("stagehand/code.rows",Rows.laid_stagehand_code_rows)∈l):RowsAt W:=zis (Lib.laidMet.reads h hm)
theorem zix {W:World} {a:String × DataW Unit} {rest:List (String × DataW Unit)} (h:laidMet Tryz.prog (a::("strings.asciiSpace",Rows.laid_strings_asciiSpace)::rest) W):SpaceAt W:=by
 rw [zjA]at h;exact Lib.tabIs_of_head zl4 znf Tryz.underlying197 Tryz.underlying5 zlT zjQ h.tail
noncomputable def zd7 (os:Os):World:=
 let N:=(World.settled Tryz.prog os).heap.size
 let w0:=World.holding Tryz.prog os ⟨#[.cells (Lib.whiteT.map fun(z:Nat)=>Value.int .u16 (z:Int)).toArray 244,.cells #[.slice (some ⟨N,0,none⟩) 7 7,.slice none 0 0,.int .i64 2] 241],#[],[]⟩
 let put (h:Array Obj) (g:Nat) (cs:Array Value):Array Obj:=h.modify g fun
  |.cells _ t frozen=>.cells cs t frozen
  |o=>o
 let h1:=put w0.heap 1 (Lib.asciiSpaceTab.map fun z=>Value.int .u8 z).toArray
 let h2:=put h1 3 #[.pointer (some ⟨N+1,0,none⟩)]
 let h3:=put h2 0 (rowT.flatMap fun r=>[Value.int .i64 r.1,Value.int .i64 r.2.1,Value.int .i64 r.2.2]).toArray
 {w0 with heap:=h3}
end Go.Proofs.YthajedcbgnloeaaGreatDoor
