/- part 5 -/
import Derived.Deep.DeepCutAuto
import Derived.Deep.CutBlock
import Derived.Maps.OwnOps
import Derived.Maps.OwnSet
import Derived.Maps.Views
import Derived.DeepKeys4
import Derived.WideKeyPair
import Derived.Test.YtepjanajflkakaaGreatDoorUnrAll01
namespace Go.Proofs.YtepjanajflkakaaGreatDoor
open Go.RowKit
set_option linter.unusedVariables false
set_option linter.unusedSimpArgs false
set_option maxRecDepth 100000
set_option maxHeartbeats 40000000
structure IBox (w:World) (b o:Nat) (x:RIns) (so co go:Option Addr) (sc cc gc:Nat):Prop where
 lt:b<w.heap.size
 c0:w.cell? ⟨b,o,none⟩=some (.int .i64 x.op)
 c1:w.cell? ⟨b,o+1,none⟩=some (.int .i64 x.dst.kind)
 c2:w.cell? ⟨b,o+2,none⟩=some (.int .i64 x.dst.n)
 c3:w.cell? ⟨b,o+3,none⟩=some (.slice so x.src.length sc)
 c4:w.cell? ⟨b,o+4,none⟩=some (.int .i64 x.to)
 c5:w.cell? ⟨b,o+5,none⟩=some (.int .i64 x.n)
 c6:w.cell? ⟨b,o+6,none⟩=some (.int .i64 x.live)
 c7:w.cell? ⟨b,o+7,none⟩=some (.string x.name)
 c8:w.cell? ⟨b,o+8,none⟩=some (.slice co x.cases.length cc)
 c9:w.cell? ⟨b,o+9,none⟩=some (.slice go x.segs.length gc)
 src:SlAt w 2 ArgR so x.src
 cases:SlAt w 2 CaseR co x.cases
 segs:SlAt w 6 SegR go x.segs
 rop:I64 x.op
 rdk:I64 x.dst.kind
 rdn:I64 x.dst.n
 rsrc:x.src.length<=9223372036854775807
 rto:I64 x.to
 rn:I64 x.n
 rlive:I64 x.live
 rname:x.name.size<=9223372036854775807
 rcases:x.cases.length<=9223372036854775807
 rsegs:x.segs.length<=9223372036854775807
theorem IBox.below {w w':World} {b o:Nat} {x:RIns} {so co go:Option Addr} {sc cc gc:Nat} (h:IBox w b o x so co go sc cc gc) (hb:Below w.heap.size w w'):IBox w' b o x so co go sc cc gc:=
 ⟨Nat.lt_of_lt_of_le h.lt hb.size,(hb.cell (p:=⟨b,o,none⟩) h.lt).trans h.c0,(hb.cell (p:=⟨b,o+1,none⟩) h.lt).trans h.c1,(hb.cell (p:=⟨b,o+2,none⟩) h.lt).trans h.c2,(hb.cell (p:=⟨b,o+3,none⟩) h.lt).trans h.c3,(hb.cell (p:=⟨b,o+4,none⟩) h.lt).trans h.c4,
  (hb.cell (p:=⟨b,o+5,none⟩) h.lt).trans h.c5,(hb.cell (p:=⟨b,o+6,none⟩) h.lt).trans h.c6,(hb.cell (p:=⟨b,o+7,none⟩) h.lt).trans h.c7,(hb.cell (p:=⟨b,o+8,none⟩) h.lt).trans h.c8,(hb.cell (p:=⟨b,o+9,none⟩) h.lt).trans h.c9,
  h.src.mono hb fun _ _ h=>h,h.cases.mono hb fun _ _ h=>h,h.segs.mono hb fun _ _ h=>h,h.rop,h.rdk,h.rdn,h.rsrc,h.rto,h.rn,h.rlive,h.rname,h.rcases,h.rsegs⟩
theorem ibox_of {w:World} {ao:Option Addr} {l:List RIns} (h:SlAt w 10 (InsR w) ao l) {k:Nat} (hk:k<l.length): ∃b off so co go sc cc gc,ao=some ⟨b,off,none⟩/\IBox w b (off+k*10) l[k] so co go sc cc gc:=by
 obtain⟨b,off,so,sc,co,cc,go,gc,e,hb,c0,c1,c2,c3,c4,c5,c6,c7,c8,c9,s1,s2,s3,r1,r2,r3,r4,r5,r6,r7,r8,r9,r10⟩:=h.ins hk
 exact⟨b,off,so,co,go,sc,cc,gc,e,hb,c0,c1,c2,c3,c4,c5,c6,c7,c8,c9,s1,s2,s3,r1,r2,r3,r4,r5,r6,r7,r8,r9,r10⟩
def dstB (nl:Nat) (x:RIns) (h:Nat):Bool:=if hasB h 1=true then !decide (x.dst.kind=3)&&opdB nl x.dst else decide (x.dst.kind=0)&&decide (x.dst.n=0)
def fieldsB (nl:Nat) (x:RIns) (h lo hi:Nat):Bool:=
 dstB nl x h&&(x.src.all (opdB nl)&&(wi x.src.length lo hi&&(wi x.live 0 256&&((hasB h 4||x.n==0)&&((hasB h 8||x.name.toList.isEmpty)&&((hasB h 64||x.to==0)&&((hasB h 128||x.live==0)&&((hasB h 16||x.cases.length==0)&&(hasB h 32||x.segs.length==0)))))))))
theorem fields_any (B:Nat) (u:RUnit) (lo' fo go' co':Option Addr) (lc fc gc' cc':Nat) (b o:Nat) (x:RIns) (so co go:Option Addr) (sc cc gc:Nat) (h lo hi:Nat) (w:World) (hu:UBox w B u lo' fo go' co' lc fc gc' cc') (hl:u.lits.length<=9223372036854775807) (hx:IBox w b o x so co go sc cc gc) (h1:h<1000) (h2:lo<1000) (h3:hi<1000):
  Calls Tryz.prog 40 #[.pointer (some ⟨B,0,none⟩),.pointer (some ⟨b,o,none⟩),.agg #[.int .i64 h,.int .i64 lo,.int .i64 hi]] w fun e w'=>e= .returned (.bool (fieldsB u.lits.length x h lo hi))/\Below w.heap.size w w':=by
 have hbe:Below w.heap.size w (w.alloc (.cells #[.int .i64 h,.int .i64 lo,.int .i64 hi] 97)):=(Below.refl _ _).alloc (Nat.le_refl _) _
 have HU:=Lib.hid (hu.below hbe);have HX:=Lib.hid (hx.below hbe)
 have hlt:=hx.lt
 have hC:(w.alloc (.cells #[.int .i64 h,.int .i64 lo,.int .i64 hi] 97)).heap[w.heap.size]?=some (.cells #[.int .i64 h,.int .i64 lo,.int .i64 hi] 97 (0,0)):=heap_alloc_new _ _
 clear hu hx
 go_enter Tryz.func40,Tryz.ntmps40
 go_wp2_with fail
 generalize w.alloc (.cells #[.int .i64 h,.int .i64 lo,.int .i64 hi] 97)=Wa at *
 have HBA:=Lib.hid hbe
 generalize hCC:w.heap.size=C at hC ⊢
 have hc0:Wa.cell? ⟨C,0,none⟩=some (.int .i64 h):=by rw [cell_of_row _ _ _ _ _ _ hC];rfl
 have i1:=HX.out.c1;have i2:=HX.out.c2;have i3:=HX.out.c3
 have hs3:=HX.out.rsrc
 refine(has_any h 1 _ rfl C _ hc0 (by omega) (by omega)).mono ?_
 rintro e w' ⟨rfl,rfl⟩
 have HD1:Hid (hasB h 1=hasB h 1):=Lib.hid rfl
 generalize hq1:hasB h 1=q1 at *
 have HQ1:=Lib.hid hq1;clear hq1
 go_upto_if 12 with(fail)
 go_cut [] (fun wx=>Hid (dstB u.lits.length x h=true)/\Below Wa.heap.size Wa wx)
 case first=>
  cases q1 with
  |true=>
   cases hd2:decide (x.dst.kind=3)with
   |true=>
    have E:Hid (fieldsB u.lits.length x h lo hi=false):=Lib.hid (by unfold fieldsB dstB;rw [HQ1.out,hd2];rfl)
    have hk:(x.dst.kind==3)=true:=by rw [of_decide_eq_true hd2];rfl
    clear hd2
    go_wp2_with fail
    go_ret
    exact⟨retb E.out.symm,hbe⟩
   |false=>
    have hk:(x.dst.kind==3)=false:=by rw [beq_eq_false_iff_ne];exact of_decide_eq_false hd2
    have hop:=operand_any B u lo' fo go' co' lc fc gc' cc' x.dst _ HU.out hl ⟨HX.out.rdk,HX.out.rdn⟩
    cases hq:opdB u.lits.length x.dst with
    |false=>
     have E:Hid (fieldsB u.lits.length x h lo hi=false):=Lib.hid (by unfold fieldsB dstB;rw [HQ1.out,hd2,hq];rfl)
     rw [hq]at hop
     clear hd2 hq
     go_wp2_with fail
     refine hop.mono ?_
     rintro e w5 ⟨rfl,hb5⟩
     go_wp2_with fail
     go_ret
     exact⟨retb E.out.symm,hbe.trans (hb5.mono hbe.size)⟩
    |true=>
     have HDST:Hid (dstB u.lits.length x h=true):=Lib.hid (by unfold dstB;rw [HQ1.out,hd2,hq];rfl)
     rw [hq]at hop
     clear hd2 hq
     go_wp2_with fail
     refine hop.mono ?_
     rintro e w5 ⟨rfl,hB0⟩
     go_wp2_with fail
     go_meet
     case rel=>exact⟨HDST,hB0⟩
  |false=>
   by_cases z1:x.dst.kind=0
   ·have y1:(x.dst.kind==0)=true:=by rw [z1];rfl
    by_cases z2:x.dst.n=0
    ·have y2:(x.dst.n==0)=true:=by rw [z2];rfl
     have HDST:Hid (dstB u.lits.length x h=true):=Lib.hid (by unfold dstB;rw [HQ1.out,decide_eq_true z1,decide_eq_true z2];rfl)
     clear z1 z2
     go_wp2_with fail
     go_meet
     case rel=>exact⟨HDST,Below.refl _ _⟩
    ·have y2:(x.dst.n==0)=false:=beq_eq_false_iff_ne.2 z2
     have E:Hid (fieldsB u.lits.length x h lo hi=false):=Lib.hid (by unfold fieldsB dstB;rw [HQ1.out,decide_eq_true z1,decide_eq_false z2];rfl)
     clear z1 z2
     go_wp2_with fail
     go_ret
     exact⟨retb E.out.symm,hbe⟩
   ·have y1:(x.dst.kind==0)=false:=beq_eq_false_iff_ne.2 z1
    have E:Hid (fieldsB u.lits.length x h lo hi=false):=Lib.hid (by unfold fieldsB dstB;rw [HQ1.out,decide_eq_false z1];rfl)
    clear z1
    go_wp2_with fail
    go_ret
    exact⟨retb E.out.symm,hbe⟩
 case rest=>
  obtain⟨HDST,hB0⟩:=hcut
  rename_i w5
  have i3:=(HX.out.below hB0).c3
  go_wp2_with fail
  go_loopw [39] (fun iv wr=> ∃k:Nat,k<=x.src.length/\iv= .int .i64 k/\Hid (∀j (h:j<x.src.length),j<k->opdB u.lits.length x.src[j]=true)/\Below Wa.heap.size Wa wr) (fun iv _=>x.src.length-(intOf iv).toNat)
  case atStart=>exact⟨0,Nat.zero_le _,rfl,Lib.hid (fun j _ h=>absurd h (Nat.not_lt_zero _)),hB0⟩
  case round=>
   obtain⟨k,hk,rfl,HK,hB⟩:=hrel
   rename World=>wr
   have ib:=HX.out.below hB
   have ub:=HU.out.below hB
   by_cases hlt:k<x.src.length
   ·obtain⟨b2,off,hao,hb2,q0,q1,r0,r1⟩:=ib.src.arg hlt
    subst hao
    have HE:Hid (opdB u.lits.length x.src[k]=false->fieldsB u.lits.length x h lo hi=false):=Lib.hid (fun hf=>by
     unfold fieldsB
     have:x.src.all (opdB u.lits.length)=false:=by
      rw [List.all_eq_false];exact⟨x.src[k],List.getElem_mem hlt,by rw [hf];decide⟩
     rw [this];simp)
    have HN:Hid (opdB u.lits.length x.src[k]=true-> ∀j (h:j<x.src.length),j<k+1->opdB u.lits.length x.src[j]=true):=Lib.hid (fun hne j h hj=>by
     rcases Nat.eq_or_lt_of_le (Nat.le_of_lt_succ hj)with e|e
     ·subst e;exact hne
     ·exact HK.out j h e)
    generalize x.src[k]=a at *
    have hba:=(Below.refl wr.heap.size wr).alloc (Nat.le_refl _) (.cells #[.int .i64 a.kind,.int .i64 a.n] 42)
    have hop:=operand_any B u lo' fo go' co' lc fc gc' cc' a _ (ub.below hba) hl ⟨r0,r1⟩
    clear ib ub
    cases hq:opdB u.lits.length a with
    |false=>
     have E:=Lib.hid (HE.out hq)
     rw [hq]at hop
     clear hq
     go_wp2_with fail
     refine hop.mono ?_
     rintro e w5 ⟨rfl,hb5⟩
     go_wp2_with fail
     go_ret
     exact⟨retb E.out.symm,HBA.out.trans ((hB.trans ((hba.trans (hb5.mono (by simp))).mono hB.size)).mono HBA.out.size)⟩
    |true=>
     have HN2:=Lib.hid (HN.out hq)
     rw [hq]at hop
     clear hq
     go_wp2_with fail
     refine hop.mono ?_
     rintro e w5 ⟨rfl,hb5⟩
     go_wp2_with fail
     go_roundw
     case rel=>exact⟨k+1,by omega,by go_num,HN2,hB.trans ((hba.trans (hb5.mono (by simp))).mono hB.size)⟩
     case measure=>simp [intOf];omega
   ·have HALL:Hid (x.src.all (opdB u.lits.length)=true):=Lib.hid (by
     rw [List.all_eq_true]
     intro a ha
     obtain⟨j,hj,rfl⟩:=List.getElem_of_mem ha
     exact HK.out j hj (by omega))
    have hC2:=(hB.block C (lt_of_row hC)).trans hC
    have hcW:wr.cell? ⟨C,0,none⟩=some (.int .i64 h):=by rw [cell_of_row _ _ _ _ _ _ hC2];rfl
    have hcL:wr.cell? ⟨C,1,none⟩=some (.int .i64 lo):=by rw [cell_of_row _ _ _ _ _ _ hC2];rfl
    have hcH:wr.cell? ⟨C,2,none⟩=some (.int .i64 hi):=by rw [cell_of_row _ _ _ _ _ _ hC2];rfl
    have d3:=ib.c3;have d4:=ib.c4;have d5:=ib.c5;have d6:=ib.c6;have d7:=ib.c7;have d8:=ib.c8;have d9:=ib.c9
    have hsrc:=ib.rsrc
    clear ib ub hC2
    have HF:Hid (fieldsB u.lits.length x h lo hi=(wi x.src.length lo hi&&(wi x.live 0 256&&((hasB h 4||x.n==0)&&((hasB h 8||x.name.toList.isEmpty)&&((hasB h 64||x.to==0)&&((hasB h 128||x.live==0)&&((hasB h 16||x.cases.length==0)&&(hasB h 32||x.segs.length==0))))))))):=Lib.hid (by
     unfold fieldsB;rw [HDST.out,HALL.out];rfl)
    have hBZ:=HBA.out.trans (hB.mono HBA.out.size)
    cases hw1:wi x.src.length lo hi with
    |false=>
     have E:Hid (fieldsB u.lits.length x h lo hi=false):=Lib.hid (by rw [HF.out,hw1];rfl)
     go_wp2_with fail
     go_quiet ((go_at_call 71;exact Calls.quiet_of_same ((within_any _ _ _ _).mono fun _ _ ⟨a,b⟩=>⟨a,b.symm⟩)))
     go_wp2_with fail
     go_ret
     exact⟨retb E.out.symm,below_drewN hBZ _⟩
    |true=>
     go_wp2_with fail
     go_quiet ((go_at_call 71;exact Calls.quiet_of_same ((within_any _ _ _ _).mono fun _ _ ⟨a,b⟩=>⟨a,b.symm⟩)))
     have HBQ:=Lib.hid hBZ
     cases hw2:wi x.live 0 256 with
     |false=>
      have E:Hid (fieldsB u.lits.length x h lo hi=false):=Lib.hid (by rw [HF.out,hw1,hw2];rfl)
      go_wp2_with (go_at_call 71;refine(within_any _ _ _ _).mono ?_;rintro e w1 ⟨rfl,rfl⟩)
      go_ret
      exact⟨retb E.out.symm,below_drewN hBZ _⟩
     |true=>
      have HF2:Hid (fieldsB u.lits.length x h lo hi=((hasB h 4||x.n==0)&&((hasB h 8||x.name.toList.isEmpty)&&((hasB h 64||x.to==0)&&((hasB h 128||x.live==0)&&((hasB h 16||x.cases.length==0)&&(hasB h 32||x.segs.length==0))))))):=Lib.hid (by rw [HF.out,hw1,hw2];rfl)
      clear HF
      have HQ0:=Lib.hid hcW
      go_upto_region 16 with(go_at_call 71;refine(within_any _ _ _ _).mono ?_;rintro e w1 ⟨rfl,rfl⟩)
      have hBW:=below_drewN hBZ nq
      have d3':=Lib.hid d3
      have d4':=Lib.hid d4
      have d5':=Lib.hid d5
      have d6':=Lib.hid d6
      have d7':=Lib.hid d7
      have d8':=Lib.hid d8
      have d9':=Lib.hid d9
      clear d3 d4 d5 d6 d7 d8 d9 hcW hcL hcH
      generalize hWQ:wr.drewN nq=Wq at *
      have hcW:Wq.cell? ⟨C,0,none⟩=some (.int .i64 h):=by rw [<-hWQ];exact HQ0.out
      have d4:=d4'.out
      rw [show wr.cell?=Wq.cell? from by rw [<-hWQ];rfl]at d4
      have d5:=d5'.out
      rw [show wr.cell?=Wq.cell? from by rw [<-hWQ];rfl]at d5
      have d6:=d6'.out
      rw [show wr.cell?=Wq.cell? from by rw [<-hWQ];rfl]at d6
      have d7:=d7'.out
      rw [show wr.cell?=Wq.cell? from by rw [<-hWQ];rfl]at d7
      have d8:=d8'.out
      rw [show wr.cell?=Wq.cell? from by rw [<-hWQ];rfl]at d8
      have d9:=d9'.out
      rw [show wr.cell?=Wq.cell? from by rw [<-hWQ];rfl]at d9
      clear hWQ
      have HG0:Hid (fieldsB u.lits.length x h lo hi=((hasB h 4||x.n==0)&&((hasB h 8||x.name.toList.isEmpty)&&((hasB h 64||x.to==0)&&((hasB h 128||x.live==0)&&((hasB h 16||x.cases.length==0)&&(hasB h 32||x.segs.length==0))))))):=Lib.hid (by rw [HF2.out])
      have hh:=fun wx (hc:wx.cell? ⟨C,0,none⟩=some (.int .i64 h))=>has_any h 4 4 rfl C wx hc (by omega) (by omega)
      go_cut [66] (fun sv wx=> ∃v:Bool,sv= .bool v/\Hid ((hasB h 4||x.n==0)= !v)/\Wq=wx)
      case first=>
       go_wp2_with fail
       refine(hh _ hcW).mono ?_
       rintro e w1 ⟨rfl,rfl⟩
       cases hq4:hasB h 4
       ·go_wp2_with fail
        go_meet
        case rel=>exact⟨_,rfl,Lib.hid (by rw [hq4];first|rfl|(simp;done)|(simp [bne];done)|(rw [Bool.eq_iff_iff];simp;done)|(rw [Bool.eq_iff_iff];simp;omega)),rfl⟩
       ·go_wp2_with fail
        go_meet
        case rel=>exact⟨_,rfl,Lib.hid (by rw [hq4];first|rfl|(simp;done)|(simp [bne];done)|(rw [Bool.eq_iff_iff];simp;done)|(rw [Bool.eq_iff_iff];simp;omega)),rfl⟩
      case rest=>
       obtain⟨v,rfl,HV00,rfl⟩:=hcut
       clear hh
       cases v with
       |true=>
        have E:Hid (fieldsB u.lits.length x h lo hi=false):=Lib.hid (by rw [HG0.out,HV00.out];rfl)
        go_wp2_with fail
        go_ret
        exact⟨retb E.out.symm,hBW⟩
       |false=>
        have HV0:Hid ((hasB h 4||x.n==0)=true):=Lib.hid (by rw [HV00.out];rfl)
        go_upto_region 17 with fail
        have HG1:Hid (fieldsB u.lits.length x h lo hi=((hasB h 8||x.name.toList.isEmpty)&&((hasB h 64||x.to==0)&&((hasB h 128||x.live==0)&&((hasB h 16||x.cases.length==0)&&(hasB h 32||x.segs.length==0)))))):=Lib.hid (by rw [HG0.out,HV0.out,Bool.true_and])
        have hh:=fun wx (hc:wx.cell? ⟨C,0,none⟩=some (.int .i64 h))=>has_any h 8 8 rfl C wx hc (by omega) (by omega)
        go_cut [66] (fun sv wx=> ∃v:Bool,sv= .bool v/\Hid ((hasB h 8||x.name.toList.isEmpty)= !v)/\Wq=wx)
        case first=>
         go_wp2_with fail
         refine(hh _ hcW).mono ?_
         rintro e w1 ⟨rfl,rfl⟩
         cases hq4:hasB h 8
         ·go_wp2_with fail
          go_meet
          case rel=>exact⟨_,rfl,Lib.hid (by rw [hq4];first|rfl|(simp;done)|(simp [bne];done)|(rw [Bool.eq_iff_iff];simp;done)|(rw [Bool.eq_iff_iff];simp;omega)),rfl⟩
         ·go_wp2_with fail
          go_meet
          case rel=>exact⟨_,rfl,Lib.hid (by rw [hq4];first|rfl|(simp;done)|(simp [bne];done)|(rw [Bool.eq_iff_iff];simp;done)|(rw [Bool.eq_iff_iff];simp;omega)),rfl⟩
        case rest=>
         obtain⟨v,rfl,HV10,rfl⟩:=hcut
         clear hh
         cases v with
         |true=>
          have E:Hid (fieldsB u.lits.length x h lo hi=false):=Lib.hid (by rw [HG1.out,HV10.out];rfl)
          go_wp2_with fail
          go_ret
          exact⟨retb E.out.symm,hBW⟩
         |false=>
          have HV1:Hid ((hasB h 8||x.name.toList.isEmpty)=true):=Lib.hid (by rw [HV10.out];rfl)
          go_upto_region 18 with fail
          have HG2:Hid (fieldsB u.lits.length x h lo hi=((hasB h 64||x.to==0)&&((hasB h 128||x.live==0)&&((hasB h 16||x.cases.length==0)&&(hasB h 32||x.segs.length==0))))):=Lib.hid (by rw [HG1.out,HV1.out,Bool.true_and])
          have hh:=fun wx (hc:wx.cell? ⟨C,0,none⟩=some (.int .i64 h))=>has_any h 64 64 rfl C wx hc (by omega) (by omega)
          go_cut [66] (fun sv wx=> ∃v:Bool,sv= .bool v/\Hid ((hasB h 64||x.to==0)= !v)/\Wq=wx)
          case first=>
           go_wp2_with fail
           refine(hh _ hcW).mono ?_
           rintro e w1 ⟨rfl,rfl⟩
           cases hq4:hasB h 64
           ·go_wp2_with fail
            go_meet
            case rel=>exact⟨_,rfl,Lib.hid (by rw [hq4];first|rfl|(simp;done)|(simp [bne];done)|(rw [Bool.eq_iff_iff];simp;done)|(rw [Bool.eq_iff_iff];simp;omega)),rfl⟩
           ·go_wp2_with fail
            go_meet
            case rel=>exact⟨_,rfl,Lib.hid (by rw [hq4];first|rfl|(simp;done)|(simp [bne];done)|(rw [Bool.eq_iff_iff];simp;done)|(rw [Bool.eq_iff_iff];simp;omega)),rfl⟩
          case rest=>
           obtain⟨v,rfl,HV20,rfl⟩:=hcut
           clear hh
           cases v with
           |true=>
            have E:Hid (fieldsB u.lits.length x h lo hi=false):=Lib.hid (by rw [HG2.out,HV20.out];rfl)
            go_wp2_with fail
            go_ret
            exact⟨retb E.out.symm,hBW⟩
           |false=>
            have HV2:Hid ((hasB h 64||x.to==0)=true):=Lib.hid (by rw [HV20.out];rfl)
            go_upto_region 19 with fail
            have HG3:Hid (fieldsB u.lits.length x h lo hi=((hasB h 128||x.live==0)&&((hasB h 16||x.cases.length==0)&&(hasB h 32||x.segs.length==0)))):=Lib.hid (by rw [HG2.out,HV2.out,Bool.true_and])
            have hh:=fun wx (hc:wx.cell? ⟨C,0,none⟩=some (.int .i64 h))=>has_any h 128 128 rfl C wx hc (by omega) (by omega)
            go_cut [66] (fun sv wx=> ∃v:Bool,sv= .bool v/\Hid ((hasB h 128||x.live==0)= !v)/\Wq=wx)
            case first=>
             go_wp2_with fail
             refine(hh _ hcW).mono ?_
             rintro e w1 ⟨rfl,rfl⟩
             cases hq4:hasB h 128
             ·go_wp2_with fail
              go_meet
              case rel=>exact⟨_,rfl,Lib.hid (by rw [hq4];first|rfl|(simp;done)|(simp [bne];done)|(rw [Bool.eq_iff_iff];simp;done)|(rw [Bool.eq_iff_iff];simp;omega)),rfl⟩
             ·go_wp2_with fail
              go_meet
              case rel=>exact⟨_,rfl,Lib.hid (by rw [hq4];first|rfl|(simp;done)|(simp [bne];done)|(rw [Bool.eq_iff_iff];simp;done)|(rw [Bool.eq_iff_iff];simp;omega)),rfl⟩
            case rest=>
             obtain⟨v,rfl,HV30,rfl⟩:=hcut
             clear hh
             cases v with
             |true=>
              have E:Hid (fieldsB u.lits.length x h lo hi=false):=Lib.hid (by rw [HG3.out,HV30.out];rfl)
              go_wp2_with fail
              go_ret
              exact⟨retb E.out.symm,hBW⟩
             |false=>
              have HV3:Hid ((hasB h 128||x.live==0)=true):=Lib.hid (by rw [HV30.out];rfl)
              go_upto_region 21 with fail
              have HG4:Hid (fieldsB u.lits.length x h lo hi=((hasB h 16||x.cases.length==0)&&(hasB h 32||x.segs.length==0))):=Lib.hid (by rw [HG3.out,HV3.out,Bool.true_and])
              have hh:=fun wx (hc:wx.cell? ⟨C,0,none⟩=some (.int .i64 h))=>has_any h 16 16 rfl C wx hc (by omega) (by omega)
              go_cut [107] (fun sv wx=> ∃v:Bool,sv= .bool v/\Hid ((hasB h 16||x.cases.length==0)= !v)/\Wq=wx)
              case first=>
               go_wp2_with fail
               refine(hh _ hcW).mono ?_
               rintro e w1 ⟨rfl,rfl⟩
               cases hq4:hasB h 16
               ·go_wp2_with fail
                go_meet
                case rel=>exact⟨_,rfl,Lib.hid (by rw [hq4];first|rfl|(simp;done)|(simp [bne];done)|(rw [Bool.eq_iff_iff];simp;done)|(rw [Bool.eq_iff_iff];simp;omega)),rfl⟩
               ·go_wp2_with fail
                go_meet
                case rel=>exact⟨_,rfl,Lib.hid (by rw [hq4];first|rfl|(simp;done)|(simp [bne];done)|(rw [Bool.eq_iff_iff];simp;done)|(rw [Bool.eq_iff_iff];simp;omega)),rfl⟩
              case rest=>
               obtain⟨v,rfl,HV40,rfl⟩:=hcut
               clear hh
               cases v with
               |true=>
                have E:Hid (fieldsB u.lits.length x h lo hi=false):=Lib.hid (by rw [HG4.out,HV40.out];rfl)
                go_wp2_with fail
                go_ret
                exact⟨retb E.out.symm,hBW⟩
               |false=>
                have HV4:Hid ((hasB h 16||x.cases.length==0)=true):=Lib.hid (by rw [HV40.out];rfl)
                go_upto_region 22 with fail
                have HG5:Hid (fieldsB u.lits.length x h lo hi=(hasB h 32||x.segs.length==0)):=Lib.hid (by rw [HG4.out,HV4.out,Bool.true_and])
                have hh:=fun wx (hc:wx.cell? ⟨C,0,none⟩=some (.int .i64 h))=>has_any h 32 32 rfl C wx hc (by omega) (by omega)
                go_cut [107] (fun sv wx=> ∃v:Bool,sv= .bool v/\Hid ((hasB h 32||x.segs.length==0)= !v)/\Wq=wx)
                case first=>
                 go_wp2_with fail
                 refine(hh _ hcW).mono ?_
                 rintro e w1 ⟨rfl,rfl⟩
                 cases hq4:hasB h 32
                 ·go_wp2_with fail
                  go_meet
                  case rel=>exact⟨_,rfl,Lib.hid (by rw [hq4];first|rfl|(simp;done)|(simp [bne];done)|(rw [Bool.eq_iff_iff];simp;done)|(rw [Bool.eq_iff_iff];simp;omega)),rfl⟩
                 ·go_wp2_with fail
                  go_meet
                  case rel=>exact⟨_,rfl,Lib.hid (by rw [hq4];first|rfl|(simp;done)|(simp [bne];done)|(rw [Bool.eq_iff_iff];simp;done)|(rw [Bool.eq_iff_iff];simp;omega)),rfl⟩
                case rest=>
                 obtain⟨v,rfl,HV50,rfl⟩:=hcut
                 clear hh
                 cases v with
                 |true=>
                  have E:Hid (fieldsB u.lits.length x h lo hi=false):=Lib.hid (by rw [HG5.out,HV50.out];rfl)
                  go_wp2_with fail
                  go_ret
                  exact⟨retb E.out.symm,hBW⟩
                 |false=>
                  have HV5:Hid ((hasB h 32||x.segs.length==0)=true):=Lib.hid (by rw [HV50.out];rfl)
                  have E:Hid (fieldsB u.lits.length x h lo hi=true):=Lib.hid (by rw [HG5.out,HV5.out])
                  go_wp2_with fail
                  go_ret
                  exact⟨retb E.out.symm,hBW⟩
open Go.RowKit Go.Maps Go.WideMaps
theorem sigLaid:laidOutB Tryz.prog=true:=by kernel_rfl
theorem sigLaw:Keyed Tryz.prog 108:=Keyed.of_law (deep_law_laid sigLaid (m:=2) (by omega) (of_decide_eq_true (by kernel_rfl)) (by kernel_rfl) (by rw [Tryz.underlying108]))
theorem zeroBool (w:World):(zeroValue 4).run Tryz.prog w= .ok (.bool false) w:=by kernel_rfl
def sigKey (s:ByteArray) (a:Int):Lit:=.string (keyBytes [.string s.data.toList,.int .i64 a])
theorem sigKeyType:Tryz.prog.keyType 108=true:=by kernel_rfl
theorem sigCells:Tryz.prog.cellsOf 108=2:=by kernel_rfl
theorem strCells1:Tryz.prog.cellsOf 9=1:=by kernel_rfl
theorem intCells1:Tryz.prog.cellsOf 3=1:=by kernel_rfl
theorem sigTypes: ∃m,Tryz.prog.types.size+1=m+1+1:=⟨Tryz.prog.types.size-1,by have:0<Tryz.prog.types.size:=of_decide_eq_true (by kernel_rfl);omega⟩
theorem keyOf_sig {s:ByteArray} {a:Int} (hs:s.size<=maxLen) (ha:I64 a):keyOf Tryz.prog 108 (.agg #[.string s,.int .i64 a])=some (sigKey s a):=by
 have hwf:(Lit.int .i64 a).wf=true:=by
  obtain⟨h1,h2⟩:=ha
  simp [Lit.wf,IntKind.min,IntKind.max,IntKind.bits,IntKind.signed];omega
 unfold keyOf sigKey
 simp only [Tryz.underlying108]
 rw [if_pos (by simp [sigKeyType,Value.formed,Tryz.underlying108,sigCells])]
 obtain⟨m,hm⟩:=sigTypes
 rw [hm]
 unfold Program.keyLits
 simp only [Tryz.underlying108,Value.cells]
 simp [Program.keyLits,Tryz.underlying9,Tryz.underlying3,strCells1,intCells1,hs,hwf]
 exact sigCells.symm
theorem sigKey_inj {s s':ByteArray} {a a':Int} (hs:s.size<=maxLen) (hs':s'.size<=maxLen) (ha:I64 a) (ha':I64 a') (h:sigKey s a=sigKey s' a'):s=s'/\a=a':=by
 have h1:=keyOf_sig hs ha
 have h2:=keyOf_sig hs' ha'
 rw [<-h]at h2
 have h3:=sigLaw.inj h1 h2
 injection h3 with h3
 have h4:=congrArg Array.toList h3
 simp at h4
 exact h4
def SigIs (w:World) (M n:Nat) (S:ByteArray->Int->Bool):Prop:= ∃D:DataW Unit,w.ownsMap Tryz.prog 108 (plainElem Tryz.prog 4) M n D/\ ∀(s:ByteArray) (a:Int),s.size<=maxLen->I64 a->D.atKey (sigKey s a) (.lit (.bool false))= .lit (.bool (S s a))
theorem SigIs.kept {w w':World} {M n:Nat} {S:ByteArray->Int->Bool} (h:SigIs w M n S) (hb:Below w.heap.size w w'):SigIs w' M n S:=by
 obtain⟨D,h1,h2⟩:=h
 exact⟨D,h1.kept (row:=none) ⟨hb.os,hb.tape,hb.output,hb.size,fun k hk _=>hb.block k hk⟩ (by simp),h2⟩
theorem SigIs.lt {w:World} {M n:Nat} {S:ByteArray->Int->Bool} (h:SigIs w M n S):M<w.heap.size:=h.elim fun _ h=>h.1.lt
theorem sig_made (w:World):SigIs (w.alloc (.map #[] 0)) w.heap.size 0 (fun _ _=>false):=⟨_,World.ownsMap_made w _ _ _,fun s a _ _=>rfl⟩
theorem plainElem_bool_inv {P:Program} {e:TypeId} (he:P.underlying e=some .bool) {v:Value} {z:DataW Unit × List MemPlace} (h:plainElem P e v=some z): ∃c,v= .bool c/\z=(.lit (.bool c),[]):=by
 unfold plainElem at h
 rw [he]at h
 cases v<;>simp at h
 exact⟨_,rfl,h.symm⟩
theorem sig_look {w:World} {M n:Nat} {S:ByteArray->Int->Bool} (h:SigIs w M n S) {s:ByteArray} {a:Int} (hs:s.size<=maxLen) (ha:I64 a):
  (Instr.lookup 147 (.map (some M)) (.agg #[.string s,.int .i64 a]) false).run Tryz.prog w= .ok (.bool (S s a)) w:=by
 obtain⟨D,h1,h2⟩:=h
 obtain⟨v,ps,hrun,hv⟩:=h1.lookup sigLaw Tryz.underlying147 (zeroBool w) (plainElem_bool Tryz.underlying4 false) (keyOf_sig hs ha)
 obtain⟨c,rfl,hc⟩:=plainElem_bool_inv Tryz.underlying4 hv
 rw [h2 s a hs ha]at hc
 have e1:(DataW.lit (.bool (S s a)):DataW Unit)= .lit (.bool c):=congrArg Prod.fst hc
 have e2:S s a=c:=by injection e1 with e1;injection e1
 rw [hrun,e2]
theorem sig_put {w w':World} {M n:Nat} {S:ByteArray->Int->Bool} {D:DataW Unit} (h1:w.ownsMap Tryz.prog 108 (plainElem Tryz.prog 4) M n D) (h2: ∀(s:ByteArray) (a:Int),s.size<=maxLen->I64 a->D.atKey (sigKey s a) (.lit (.bool false))= .lit (.bool (S s a)))
  {s:ByteArray} {a:Int} (hs:s.size<=maxLen) (ha:I64 a) (h3:w'.ownsMap Tryz.prog 108 (plainElem Tryz.prog 4) M (n+1) (D.put (sigKey s a) (.lit (.bool true)))):SigIs w' M (n+1) (fun s' a'=>(s.data.toList==s'.data.toList&&a==a')||S s' a'):=by
 refine⟨_,h3,fun s' a' hs' ha'=>?_⟩
 by_cases e:s'=s/\a'=a
 ·obtain⟨rfl,rfl⟩:=e
  rw [atKey_put_same h1.isMap (sigLaw.key (keyOf_sig hs ha))]
  simp
 ·rw [atKey_put_other (fun h=>e (sigKey_inj hs' hs ha' ha h)),h2 s' a' hs' ha']
  have:(s.data.toList==s'.data.toList&&a==a')=false:=by
   cases h:(s.data.toList==s'.data.toList&&a==a')with
   |false=>rfl
   |true=>
    rw [Bool.and_eq_true,beq_iff_eq,beq_iff_eq]at h
    exact absurd ⟨ByteArray.ext (Array.toList_inj.1 h.1.symm),h.2.symm⟩ e
  simp only [this,Bool.false_or]
def numberB (nf:Nat) (funs:List RFun) (x:RIns):Bool:=
 if x.op=4 then wi x.n 0 ((funs.length:Int)-1)&&(match funs[x.n.toNat]? with
  |some f=>decide ((x.src.length:Int)=f.free)
  |none=>false)
 else if x.op=5 then wi x.n 0 254 else if x.op=9 then wi x.n 0 255 else if x.op=16∨x.op=17 then wi x.n 0 ((nf:Int)-1)
 else if x.op=15∨x.op=18∨x.op=19∨x.op=20∨x.op=21 then wi x.n 0 16 else if x.op=24 then wi x.n 1 8192 else if x.op=31 then wi x.n 0 3
 else if x.op=32∨x.op=33 then decide (x.n=1)||decide (x.n=8)else true
theorem number_5 (B:Nat) (u:RUnit) (lo' fo go' co':Option Addr) (lc fc gc' cc':Nat) (b o:Nat) (x:RIns) (so co go:Option Addr) (sc cc gc:Nat) (w:World) (hu:UBox w B u lo' fo go' co' lc fc gc' cc') (hl:u.funcs.length<=9223372036854775807) (hl2:u.funs.length<=9223372036854775807) (hf:SlAt w 3 FunR go' u.funs) (hx:IBox w b o x so co go sc cc gc) (hop:x.op=5):
  Calls Tryz.prog 41 #[.pointer (some ⟨B,0,none⟩),.pointer (some ⟨b,o,none⟩)] w fun e w'=>e= .returned (.bool (numberB u.funcs.length u.funs x))/\Below w.heap.size w w':=by
 have c0:=hx.c0;have c3:=hx.c3;have c5:=hx.c5
 have b3:=hu.c3;have b4:=hu.c4
 have r1:=hx.rn;have r2:=hx.rsrc
 obtain⟨r1a,r1b⟩:=r1
 have HF:=Lib.hid hf
 clear hu hx hf
 have hw1:IntKind.i64.wrap ((u.funcs.length:Int)-1)=(u.funcs.length:Int)-1:=by rw [IntKind.wrap_i64];omega
 have hw2:IntKind.i64.wrap ((u.funs.length:Int)-1)=(u.funs.length:Int)-1:=by rw [IntKind.wrap_i64];omega
 have E:Hid (numberB u.funcs.length u.funs x=wi x.n 0 254):=Lib.hid (by unfold numberB;rw [hop];rfl)
 rw [hop]at c0
 clear hop
 go_enter Tryz.func41,Tryz.ntmps41
 go_wp2_with (go_at_call 71;refine(within_any _ _ _ _).mono ?_;rintro e w1 ⟨rfl,rfl⟩)
 go_ret
 exact⟨retb E.out.symm,Below.refl _ _⟩
theorem number_9 (B:Nat) (u:RUnit) (lo' fo go' co':Option Addr) (lc fc gc' cc':Nat) (b o:Nat) (x:RIns) (so co go:Option Addr) (sc cc gc:Nat) (w:World) (hu:UBox w B u lo' fo go' co' lc fc gc' cc') (hl:u.funcs.length<=9223372036854775807) (hl2:u.funs.length<=9223372036854775807) (hf:SlAt w 3 FunR go' u.funs) (hx:IBox w b o x so co go sc cc gc) (hop:x.op=9):
  Calls Tryz.prog 41 #[.pointer (some ⟨B,0,none⟩),.pointer (some ⟨b,o,none⟩)] w fun e w'=>e= .returned (.bool (numberB u.funcs.length u.funs x))/\Below w.heap.size w w':=by
 have c0:=hx.c0;have c3:=hx.c3;have c5:=hx.c5
 have b3:=hu.c3;have b4:=hu.c4
 have r1:=hx.rn;have r2:=hx.rsrc
 obtain⟨r1a,r1b⟩:=r1
 have HF:=Lib.hid hf
 clear hu hx hf
 have hw1:IntKind.i64.wrap ((u.funcs.length:Int)-1)=(u.funcs.length:Int)-1:=by rw [IntKind.wrap_i64];omega
 have hw2:IntKind.i64.wrap ((u.funs.length:Int)-1)=(u.funs.length:Int)-1:=by rw [IntKind.wrap_i64];omega
 have E:Hid (numberB u.funcs.length u.funs x=wi x.n 0 255):=Lib.hid (by unfold numberB;rw [hop];rfl)
 rw [hop]at c0
 clear hop
 go_enter Tryz.func41,Tryz.ntmps41
 go_wp2_with (go_at_call 71;refine(within_any _ _ _ _).mono ?_;rintro e w1 ⟨rfl,rfl⟩)
 go_ret
 exact⟨retb E.out.symm,Below.refl _ _⟩
theorem number_15 (B:Nat) (u:RUnit) (lo' fo go' co':Option Addr) (lc fc gc' cc':Nat) (b o:Nat) (x:RIns) (so co go:Option Addr) (sc cc gc:Nat) (w:World) (hu:UBox w B u lo' fo go' co' lc fc gc' cc') (hl:u.funcs.length<=9223372036854775807) (hl2:u.funs.length<=9223372036854775807) (hf:SlAt w 3 FunR go' u.funs) (hx:IBox w b o x so co go sc cc gc) (hop:x.op=15):
  Calls Tryz.prog 41 #[.pointer (some ⟨B,0,none⟩),.pointer (some ⟨b,o,none⟩)] w fun e w'=>e= .returned (.bool (numberB u.funcs.length u.funs x))/\Below w.heap.size w w':=by
 have c0:=hx.c0;have c3:=hx.c3;have c5:=hx.c5
 have b3:=hu.c3;have b4:=hu.c4
 have r1:=hx.rn;have r2:=hx.rsrc
 obtain⟨r1a,r1b⟩:=r1
 have HF:=Lib.hid hf
 clear hu hx hf
 have hw1:IntKind.i64.wrap ((u.funcs.length:Int)-1)=(u.funcs.length:Int)-1:=by rw [IntKind.wrap_i64];omega
 have hw2:IntKind.i64.wrap ((u.funs.length:Int)-1)=(u.funs.length:Int)-1:=by rw [IntKind.wrap_i64];omega
 have E:Hid (numberB u.funcs.length u.funs x=wi x.n 0 16):=Lib.hid (by unfold numberB;rw [hop];rfl)
 rw [hop]at c0
 clear hop
 go_enter Tryz.func41,Tryz.ntmps41
 go_wp2_with (go_at_call 71;refine(within_any _ _ _ _).mono ?_;rintro e w1 ⟨rfl,rfl⟩)
 go_ret
 exact⟨retb E.out.symm,Below.refl _ _⟩
theorem number_18 (B:Nat) (u:RUnit) (lo' fo go' co':Option Addr) (lc fc gc' cc':Nat) (b o:Nat) (x:RIns) (so co go:Option Addr) (sc cc gc:Nat) (w:World) (hu:UBox w B u lo' fo go' co' lc fc gc' cc') (hl:u.funcs.length<=9223372036854775807) (hl2:u.funs.length<=9223372036854775807) (hf:SlAt w 3 FunR go' u.funs) (hx:IBox w b o x so co go sc cc gc) (hop:x.op=18):
  Calls Tryz.prog 41 #[.pointer (some ⟨B,0,none⟩),.pointer (some ⟨b,o,none⟩)] w fun e w'=>e= .returned (.bool (numberB u.funcs.length u.funs x))/\Below w.heap.size w w':=by
 have c0:=hx.c0;have c3:=hx.c3;have c5:=hx.c5
 have b3:=hu.c3;have b4:=hu.c4
 have r1:=hx.rn;have r2:=hx.rsrc
 obtain⟨r1a,r1b⟩:=r1
 have HF:=Lib.hid hf
 clear hu hx hf
 have hw1:IntKind.i64.wrap ((u.funcs.length:Int)-1)=(u.funcs.length:Int)-1:=by rw [IntKind.wrap_i64];omega
 have hw2:IntKind.i64.wrap ((u.funs.length:Int)-1)=(u.funs.length:Int)-1:=by rw [IntKind.wrap_i64];omega
 have E:Hid (numberB u.funcs.length u.funs x=wi x.n 0 16):=Lib.hid (by unfold numberB;rw [hop];rfl)
 rw [hop]at c0
 clear hop
 go_enter Tryz.func41,Tryz.ntmps41
 go_wp2_with (go_at_call 71;refine(within_any _ _ _ _).mono ?_;rintro e w1 ⟨rfl,rfl⟩)
 go_ret
 exact⟨retb E.out.symm,Below.refl _ _⟩
theorem number_19 (B:Nat) (u:RUnit) (lo' fo go' co':Option Addr) (lc fc gc' cc':Nat) (b o:Nat) (x:RIns) (so co go:Option Addr) (sc cc gc:Nat) (w:World) (hu:UBox w B u lo' fo go' co' lc fc gc' cc') (hl:u.funcs.length<=9223372036854775807) (hl2:u.funs.length<=9223372036854775807) (hf:SlAt w 3 FunR go' u.funs) (hx:IBox w b o x so co go sc cc gc) (hop:x.op=19):
  Calls Tryz.prog 41 #[.pointer (some ⟨B,0,none⟩),.pointer (some ⟨b,o,none⟩)] w fun e w'=>e= .returned (.bool (numberB u.funcs.length u.funs x))/\Below w.heap.size w w':=by
 have c0:=hx.c0;have c3:=hx.c3;have c5:=hx.c5
 have b3:=hu.c3;have b4:=hu.c4
 have r1:=hx.rn;have r2:=hx.rsrc
 obtain⟨r1a,r1b⟩:=r1
 have HF:=Lib.hid hf
 clear hu hx hf
 have hw1:IntKind.i64.wrap ((u.funcs.length:Int)-1)=(u.funcs.length:Int)-1:=by rw [IntKind.wrap_i64];omega
 have hw2:IntKind.i64.wrap ((u.funs.length:Int)-1)=(u.funs.length:Int)-1:=by rw [IntKind.wrap_i64];omega
 have E:Hid (numberB u.funcs.length u.funs x=wi x.n 0 16):=Lib.hid (by unfold numberB;rw [hop];rfl)
 rw [hop]at c0
 clear hop
 go_enter Tryz.func41,Tryz.ntmps41
 go_wp2_with (go_at_call 71;refine(within_any _ _ _ _).mono ?_;rintro e w1 ⟨rfl,rfl⟩)
 go_ret
 exact⟨retb E.out.symm,Below.refl _ _⟩
theorem number_20 (B:Nat) (u:RUnit) (lo' fo go' co':Option Addr) (lc fc gc' cc':Nat) (b o:Nat) (x:RIns) (so co go:Option Addr) (sc cc gc:Nat) (w:World) (hu:UBox w B u lo' fo go' co' lc fc gc' cc') (hl:u.funcs.length<=9223372036854775807) (hl2:u.funs.length<=9223372036854775807) (hf:SlAt w 3 FunR go' u.funs) (hx:IBox w b o x so co go sc cc gc) (hop:x.op=20):
  Calls Tryz.prog 41 #[.pointer (some ⟨B,0,none⟩),.pointer (some ⟨b,o,none⟩)] w fun e w'=>e= .returned (.bool (numberB u.funcs.length u.funs x))/\Below w.heap.size w w':=by
 have c0:=hx.c0;have c3:=hx.c3;have c5:=hx.c5
 have b3:=hu.c3;have b4:=hu.c4
 have r1:=hx.rn;have r2:=hx.rsrc
 obtain⟨r1a,r1b⟩:=r1
 have HF:=Lib.hid hf
 clear hu hx hf
 have hw1:IntKind.i64.wrap ((u.funcs.length:Int)-1)=(u.funcs.length:Int)-1:=by rw [IntKind.wrap_i64];omega
 have hw2:IntKind.i64.wrap ((u.funs.length:Int)-1)=(u.funs.length:Int)-1:=by rw [IntKind.wrap_i64];omega
 have E:Hid (numberB u.funcs.length u.funs x=wi x.n 0 16):=Lib.hid (by unfold numberB;rw [hop];rfl)
 rw [hop]at c0
 clear hop
 go_enter Tryz.func41,Tryz.ntmps41
 go_wp2_with (go_at_call 71;refine(within_any _ _ _ _).mono ?_;rintro e w1 ⟨rfl,rfl⟩)
 go_ret
 exact⟨retb E.out.symm,Below.refl _ _⟩
theorem number_21 (B:Nat) (u:RUnit) (lo' fo go' co':Option Addr) (lc fc gc' cc':Nat) (b o:Nat) (x:RIns) (so co go:Option Addr) (sc cc gc:Nat) (w:World) (hu:UBox w B u lo' fo go' co' lc fc gc' cc') (hl:u.funcs.length<=9223372036854775807) (hl2:u.funs.length<=9223372036854775807) (hf:SlAt w 3 FunR go' u.funs) (hx:IBox w b o x so co go sc cc gc) (hop:x.op=21):
  Calls Tryz.prog 41 #[.pointer (some ⟨B,0,none⟩),.pointer (some ⟨b,o,none⟩)] w fun e w'=>e= .returned (.bool (numberB u.funcs.length u.funs x))/\Below w.heap.size w w':=by
 have c0:=hx.c0;have c3:=hx.c3;have c5:=hx.c5
 have b3:=hu.c3;have b4:=hu.c4
 have r1:=hx.rn;have r2:=hx.rsrc
 obtain⟨r1a,r1b⟩:=r1
 have HF:=Lib.hid hf
 clear hu hx hf
 have hw1:IntKind.i64.wrap ((u.funcs.length:Int)-1)=(u.funcs.length:Int)-1:=by rw [IntKind.wrap_i64];omega
 have hw2:IntKind.i64.wrap ((u.funs.length:Int)-1)=(u.funs.length:Int)-1:=by rw [IntKind.wrap_i64];omega
 have E:Hid (numberB u.funcs.length u.funs x=wi x.n 0 16):=Lib.hid (by unfold numberB;rw [hop];rfl)
 rw [hop]at c0
 clear hop
 go_enter Tryz.func41,Tryz.ntmps41
 go_wp2_with (go_at_call 71;refine(within_any _ _ _ _).mono ?_;rintro e w1 ⟨rfl,rfl⟩)
 go_ret
 exact⟨retb E.out.symm,Below.refl _ _⟩
theorem number_24 (B:Nat) (u:RUnit) (lo' fo go' co':Option Addr) (lc fc gc' cc':Nat) (b o:Nat) (x:RIns) (so co go:Option Addr) (sc cc gc:Nat) (w:World) (hu:UBox w B u lo' fo go' co' lc fc gc' cc') (hl:u.funcs.length<=9223372036854775807) (hl2:u.funs.length<=9223372036854775807) (hf:SlAt w 3 FunR go' u.funs) (hx:IBox w b o x so co go sc cc gc) (hop:x.op=24):
  Calls Tryz.prog 41 #[.pointer (some ⟨B,0,none⟩),.pointer (some ⟨b,o,none⟩)] w fun e w'=>e= .returned (.bool (numberB u.funcs.length u.funs x))/\Below w.heap.size w w':=by
 have c0:=hx.c0;have c3:=hx.c3;have c5:=hx.c5
 have b3:=hu.c3;have b4:=hu.c4
 have r1:=hx.rn;have r2:=hx.rsrc
 obtain⟨r1a,r1b⟩:=r1
 have HF:=Lib.hid hf
 clear hu hx hf
 have hw1:IntKind.i64.wrap ((u.funcs.length:Int)-1)=(u.funcs.length:Int)-1:=by rw [IntKind.wrap_i64];omega
 have hw2:IntKind.i64.wrap ((u.funs.length:Int)-1)=(u.funs.length:Int)-1:=by rw [IntKind.wrap_i64];omega
 have E:Hid (numberB u.funcs.length u.funs x=wi x.n 1 8192):=Lib.hid (by unfold numberB;rw [hop];rfl)
 rw [hop]at c0
 clear hop
 go_enter Tryz.func41,Tryz.ntmps41
 go_wp2_with (go_at_call 71;refine(within_any _ _ _ _).mono ?_;rintro e w1 ⟨rfl,rfl⟩)
 go_ret
 exact⟨retb E.out.symm,Below.refl _ _⟩
theorem number_31 (B:Nat) (u:RUnit) (lo' fo go' co':Option Addr) (lc fc gc' cc':Nat) (b o:Nat) (x:RIns) (so co go:Option Addr) (sc cc gc:Nat) (w:World) (hu:UBox w B u lo' fo go' co' lc fc gc' cc') (hl:u.funcs.length<=9223372036854775807) (hl2:u.funs.length<=9223372036854775807) (hf:SlAt w 3 FunR go' u.funs) (hx:IBox w b o x so co go sc cc gc) (hop:x.op=31):
  Calls Tryz.prog 41 #[.pointer (some ⟨B,0,none⟩),.pointer (some ⟨b,o,none⟩)] w fun e w'=>e= .returned (.bool (numberB u.funcs.length u.funs x))/\Below w.heap.size w w':=by
 have c0:=hx.c0;have c3:=hx.c3;have c5:=hx.c5
 have b3:=hu.c3;have b4:=hu.c4
 have r1:=hx.rn;have r2:=hx.rsrc
 obtain⟨r1a,r1b⟩:=r1
 have HF:=Lib.hid hf
 clear hu hx hf
 have hw1:IntKind.i64.wrap ((u.funcs.length:Int)-1)=(u.funcs.length:Int)-1:=by rw [IntKind.wrap_i64];omega
 have hw2:IntKind.i64.wrap ((u.funs.length:Int)-1)=(u.funs.length:Int)-1:=by rw [IntKind.wrap_i64];omega
 have E:Hid (numberB u.funcs.length u.funs x=wi x.n 0 3):=Lib.hid (by unfold numberB;rw [hop];rfl)
 rw [hop]at c0
 clear hop
 go_enter Tryz.func41,Tryz.ntmps41
 go_wp2_with (go_at_call 71;refine(within_any _ _ _ _).mono ?_;rintro e w1 ⟨rfl,rfl⟩)
 go_ret
 exact⟨retb E.out.symm,Below.refl _ _⟩
theorem number_16 (B:Nat) (u:RUnit) (lo' fo go' co':Option Addr) (lc fc gc' cc':Nat) (b o:Nat) (x:RIns) (so co go:Option Addr) (sc cc gc:Nat) (w:World) (hu:UBox w B u lo' fo go' co' lc fc gc' cc') (hl:u.funcs.length<=9223372036854775807) (hl2:u.funs.length<=9223372036854775807) (hf:SlAt w 3 FunR go' u.funs) (hx:IBox w b o x so co go sc cc gc) (hop:x.op=16):
  Calls Tryz.prog 41 #[.pointer (some ⟨B,0,none⟩),.pointer (some ⟨b,o,none⟩)] w fun e w'=>e= .returned (.bool (numberB u.funcs.length u.funs x))/\Below w.heap.size w w':=by
 have c0:=hx.c0;have c3:=hx.c3;have c5:=hx.c5
 have b3:=hu.c3;have b4:=hu.c4
 have r1:=hx.rn;have r2:=hx.rsrc
 obtain⟨r1a,r1b⟩:=r1
 have HF:=Lib.hid hf
 clear hu hx hf
 have hw1:IntKind.i64.wrap ((u.funcs.length:Int)-1)=(u.funcs.length:Int)-1:=by rw [IntKind.wrap_i64];omega
 have hw2:IntKind.i64.wrap ((u.funs.length:Int)-1)=(u.funs.length:Int)-1:=by rw [IntKind.wrap_i64];omega
 have E:Hid (numberB u.funcs.length u.funs x=wi x.n 0 ((u.funcs.length:Int)-1)):=Lib.hid (by unfold numberB;rw [hop];rfl)
 rw [hop]at c0
 clear hop
 go_enter Tryz.func41,Tryz.ntmps41
 go_wp2_with fail
 go_quiet ((go_at_call 71;exact Calls.quiet_of_same ((within_any _ _ _ _).mono fun _ _ ⟨a,b⟩=>⟨a,b.symm⟩)))
 go_wp2_with fail
 go_ret
 exact⟨retb E.out.symm,below_drewN (Below.refl _ _) _⟩
theorem number_17 (B:Nat) (u:RUnit) (lo' fo go' co':Option Addr) (lc fc gc' cc':Nat) (b o:Nat) (x:RIns) (so co go:Option Addr) (sc cc gc:Nat) (w:World) (hu:UBox w B u lo' fo go' co' lc fc gc' cc') (hl:u.funcs.length<=9223372036854775807) (hl2:u.funs.length<=9223372036854775807) (hf:SlAt w 3 FunR go' u.funs) (hx:IBox w b o x so co go sc cc gc) (hop:x.op=17):
  Calls Tryz.prog 41 #[.pointer (some ⟨B,0,none⟩),.pointer (some ⟨b,o,none⟩)] w fun e w'=>e= .returned (.bool (numberB u.funcs.length u.funs x))/\Below w.heap.size w w':=by
 have c0:=hx.c0;have c3:=hx.c3;have c5:=hx.c5
 have b3:=hu.c3;have b4:=hu.c4
 have r1:=hx.rn;have r2:=hx.rsrc
 obtain⟨r1a,r1b⟩:=r1
 have HF:=Lib.hid hf
 clear hu hx hf
 have hw1:IntKind.i64.wrap ((u.funcs.length:Int)-1)=(u.funcs.length:Int)-1:=by rw [IntKind.wrap_i64];omega
 have hw2:IntKind.i64.wrap ((u.funs.length:Int)-1)=(u.funs.length:Int)-1:=by rw [IntKind.wrap_i64];omega
 have E:Hid (numberB u.funcs.length u.funs x=wi x.n 0 ((u.funcs.length:Int)-1)):=Lib.hid (by unfold numberB;rw [hop];rfl)
 rw [hop]at c0
 clear hop
 go_enter Tryz.func41,Tryz.ntmps41
 go_wp2_with fail
 go_quiet ((go_at_call 71;exact Calls.quiet_of_same ((within_any _ _ _ _).mono fun _ _ ⟨a,b⟩=>⟨a,b.symm⟩)))
 go_wp2_with fail
 go_ret
 exact⟨retb E.out.symm,below_drewN (Below.refl _ _) _⟩
theorem number_32 (B:Nat) (u:RUnit) (lo' fo go' co':Option Addr) (lc fc gc' cc':Nat) (b o:Nat) (x:RIns) (so co go:Option Addr) (sc cc gc:Nat) (w:World) (hu:UBox w B u lo' fo go' co' lc fc gc' cc') (hl:u.funcs.length<=9223372036854775807) (hl2:u.funs.length<=9223372036854775807) (hf:SlAt w 3 FunR go' u.funs) (hx:IBox w b o x so co go sc cc gc) (hop:x.op=32):
  Calls Tryz.prog 41 #[.pointer (some ⟨B,0,none⟩),.pointer (some ⟨b,o,none⟩)] w fun e w'=>e= .returned (.bool (numberB u.funcs.length u.funs x))/\Below w.heap.size w w':=by
 have c0:=hx.c0;have c3:=hx.c3;have c5:=hx.c5
 have b3:=hu.c3;have b4:=hu.c4
 have r1:=hx.rn;have r2:=hx.rsrc
 obtain⟨r1a,r1b⟩:=r1
 have HF:=Lib.hid hf
 clear hu hx hf
 have hw1:IntKind.i64.wrap ((u.funcs.length:Int)-1)=(u.funcs.length:Int)-1:=by rw [IntKind.wrap_i64];omega
 have hw2:IntKind.i64.wrap ((u.funs.length:Int)-1)=(u.funs.length:Int)-1:=by rw [IntKind.wrap_i64];omega
 have E:Hid (numberB u.funcs.length u.funs x=(decide (x.n=1)||decide (x.n=8))):=Lib.hid (by unfold numberB;rw [hop];rfl)
 rw [hop]at c0
 clear hop
 by_cases n1:x.n=1
 ·have t1:(x.n==1)=true:=by rw [n1];rfl
  have E2:Hid (numberB u.funcs.length u.funs x=true):=Lib.hid (by rw [E.out,decide_eq_true n1];rfl)
  clear n1
  go_enter Tryz.func41,Tryz.ntmps41
  go_wp2_with fail
  go_ret
  exact⟨retb E2.out.symm,Below.refl _ _⟩
 ·have t1:(x.n==1)=false:=beq_eq_false_iff_ne.2 n1
  by_cases n8:x.n=8
  ·have t2:(x.n==8)=true:=by rw [n8];rfl
   have E2:Hid (numberB u.funcs.length u.funs x=true):=Lib.hid (by rw [E.out,decide_eq_true n8];simp)
   clear n1 n8
   go_enter Tryz.func41,Tryz.ntmps41
   go_wp2_with fail
   go_ret
   exact⟨retb E2.out.symm,Below.refl _ _⟩
  ·have t2:(x.n==8)=false:=beq_eq_false_iff_ne.2 n8
   have E2:Hid (numberB u.funcs.length u.funs x=false):=Lib.hid (by rw [E.out,decide_eq_false n1,decide_eq_false n8];rfl)
   clear n1 n8
   go_enter Tryz.func41,Tryz.ntmps41
   go_wp2_with fail
   go_ret
   exact⟨retb E2.out.symm,Below.refl _ _⟩
theorem number_33 (B:Nat) (u:RUnit) (lo' fo go' co':Option Addr) (lc fc gc' cc':Nat) (b o:Nat) (x:RIns) (so co go:Option Addr) (sc cc gc:Nat) (w:World) (hu:UBox w B u lo' fo go' co' lc fc gc' cc') (hl:u.funcs.length<=9223372036854775807) (hl2:u.funs.length<=9223372036854775807) (hf:SlAt w 3 FunR go' u.funs) (hx:IBox w b o x so co go sc cc gc) (hop:x.op=33):
  Calls Tryz.prog 41 #[.pointer (some ⟨B,0,none⟩),.pointer (some ⟨b,o,none⟩)] w fun e w'=>e= .returned (.bool (numberB u.funcs.length u.funs x))/\Below w.heap.size w w':=by
 have c0:=hx.c0;have c3:=hx.c3;have c5:=hx.c5
 have b3:=hu.c3;have b4:=hu.c4
 have r1:=hx.rn;have r2:=hx.rsrc
 obtain⟨r1a,r1b⟩:=r1
 have HF:=Lib.hid hf
 clear hu hx hf
 have hw1:IntKind.i64.wrap ((u.funcs.length:Int)-1)=(u.funcs.length:Int)-1:=by rw [IntKind.wrap_i64];omega
 have hw2:IntKind.i64.wrap ((u.funs.length:Int)-1)=(u.funs.length:Int)-1:=by rw [IntKind.wrap_i64];omega
 have E:Hid (numberB u.funcs.length u.funs x=(decide (x.n=1)||decide (x.n=8))):=Lib.hid (by unfold numberB;rw [hop];rfl)
 rw [hop]at c0
 clear hop
 by_cases n1:x.n=1
 ·have t1:(x.n==1)=true:=by rw [n1];rfl
  have E2:Hid (numberB u.funcs.length u.funs x=true):=Lib.hid (by rw [E.out,decide_eq_true n1];rfl)
  clear n1
  go_enter Tryz.func41,Tryz.ntmps41
  go_wp2_with fail
  go_ret
  exact⟨retb E2.out.symm,Below.refl _ _⟩
 ·have t1:(x.n==1)=false:=beq_eq_false_iff_ne.2 n1
  by_cases n8:x.n=8
  ·have t2:(x.n==8)=true:=by rw [n8];rfl
   have E2:Hid (numberB u.funcs.length u.funs x=true):=Lib.hid (by rw [E.out,decide_eq_true n8];simp)
   clear n1 n8
   go_enter Tryz.func41,Tryz.ntmps41
   go_wp2_with fail
   go_ret
   exact⟨retb E2.out.symm,Below.refl _ _⟩
  ·have t2:(x.n==8)=false:=beq_eq_false_iff_ne.2 n8
   have E2:Hid (numberB u.funcs.length u.funs x=false):=Lib.hid (by rw [E.out,decide_eq_false n1,decide_eq_false n8];rfl)
   clear n1 n8
   go_enter Tryz.func41,Tryz.ntmps41
   go_wp2_with fail
   go_ret
   exact⟨retb E2.out.symm,Below.refl _ _⟩
theorem number_rest (B:Nat) (u:RUnit) (lo' fo go' co':Option Addr) (lc fc gc' cc':Nat) (b o:Nat) (x:RIns) (so co go:Option Addr) (sc cc gc:Nat) (w:World) (hu:UBox w B u lo' fo go' co' lc fc gc' cc') (hl:u.funcs.length<=9223372036854775807) (hl2:u.funs.length<=9223372036854775807) (hf:SlAt w 3 FunR go' u.funs) (hx:IBox w b o x so co go sc cc gc) (h5: ¬x.op=5) (h9: ¬x.op=9) (h15: ¬x.op=15) (h18: ¬x.op=18) (h19: ¬x.op=19) (h20: ¬x.op=20) (h21: ¬x.op=21) (h24: ¬x.op=24) (h31: ¬x.op=31) (h16: ¬x.op=16) (h17: ¬x.op=17) (h32: ¬x.op=32) (h33: ¬x.op=33) (h4: ¬x.op=4):
  Calls Tryz.prog 41 #[.pointer (some ⟨B,0,none⟩),.pointer (some ⟨b,o,none⟩)] w fun e w'=>e= .returned (.bool (numberB u.funcs.length u.funs x))/\Below w.heap.size w w':=by
 have c0:=hx.c0;have c3:=hx.c3;have c5:=hx.c5
 have b3:=hu.c3;have b4:=hu.c4
 have r1:=hx.rn;have r2:=hx.rsrc
 obtain⟨r1a,r1b⟩:=r1
 have HF:=Lib.hid hf
 clear hu hx hf
 have hw1:IntKind.i64.wrap ((u.funcs.length:Int)-1)=(u.funcs.length:Int)-1:=by rw [IntKind.wrap_i64];omega
 have hw2:IntKind.i64.wrap ((u.funs.length:Int)-1)=(u.funs.length:Int)-1:=by rw [IntKind.wrap_i64];omega
 have E:Hid (numberB u.funcs.length u.funs x=true):=Lib.hid (by unfold numberB;rw [if_neg h4,if_neg h5,if_neg h9,if_neg (by omega),if_neg (by omega),if_neg h24,if_neg h31,if_neg (by omega)])
 have t5:(x.op==5)=false:=beq_eq_false_iff_ne.2 h5
 have t9:(x.op==9)=false:=beq_eq_false_iff_ne.2 h9
 have t15:(x.op==15)=false:=beq_eq_false_iff_ne.2 h15
 have t18:(x.op==18)=false:=beq_eq_false_iff_ne.2 h18
 have t19:(x.op==19)=false:=beq_eq_false_iff_ne.2 h19
 have t20:(x.op==20)=false:=beq_eq_false_iff_ne.2 h20
 have t21:(x.op==21)=false:=beq_eq_false_iff_ne.2 h21
 have t24:(x.op==24)=false:=beq_eq_false_iff_ne.2 h24
 have t31:(x.op==31)=false:=beq_eq_false_iff_ne.2 h31
 have t16:(x.op==16)=false:=beq_eq_false_iff_ne.2 h16
 have t17:(x.op==17)=false:=beq_eq_false_iff_ne.2 h17
 have t32:(x.op==32)=false:=beq_eq_false_iff_ne.2 h32
 have t33:(x.op==33)=false:=beq_eq_false_iff_ne.2 h33
 have t4:(x.op==4)=false:=beq_eq_false_iff_ne.2 h4
 clear h5 h9 h15 h18 h19 h20 h21 h24 h31 h16 h17 h32 h33 h4
 go_enter Tryz.func41,Tryz.ntmps41
 go_wp2_with fail
 go_ret
 exact⟨retb E.out.symm,Below.refl _ _⟩
theorem number_4 (B:Nat) (u:RUnit) (lo' fo go' co':Option Addr) (lc fc gc' cc':Nat) (b o:Nat) (x:RIns) (so co go:Option Addr) (sc cc gc:Nat) (w:World) (hu:UBox w B u lo' fo go' co' lc fc gc' cc') (hl:u.funcs.length<=9223372036854775807) (hl2:u.funs.length<=9223372036854775807) (hf:SlAt w 3 FunR go' u.funs) (hx:IBox w b o x so co go sc cc gc) (hop:x.op=4):
  Calls Tryz.prog 41 #[.pointer (some ⟨B,0,none⟩),.pointer (some ⟨b,o,none⟩)] w fun e w'=>e= .returned (.bool (numberB u.funcs.length u.funs x))/\Below w.heap.size w w':=by
 have c0:=hx.c0;have c3:=hx.c3;have c5:=hx.c5
 have b3:=hu.c3;have b4:=hu.c4
 have r1:=hx.rn;have r2:=hx.rsrc
 obtain⟨r1a,r1b⟩:=r1
 have HF:=Lib.hid hf
 clear hu hx hf
 have hw1:IntKind.i64.wrap ((u.funcs.length:Int)-1)=(u.funcs.length:Int)-1:=by rw [IntKind.wrap_i64];omega
 have hw2:IntKind.i64.wrap ((u.funs.length:Int)-1)=(u.funs.length:Int)-1:=by rw [IntKind.wrap_i64];omega
 have E:Hid (numberB u.funcs.length u.funs x=(wi x.n 0 ((u.funs.length:Int)-1)&&(match u.funs[x.n.toNat]? with
   |some f=>decide ((x.src.length:Int)=f.free)
   |none=>false))):=Lib.hid (by unfold numberB;rw [hop];rfl)
 rw [hop]at c0
 clear hop
 cases hw:wi x.n 0 ((u.funs.length:Int)-1)with
 |false=>
  have E2:Hid (numberB u.funcs.length u.funs x=false):=Lib.hid (by rw [E.out,hw];rfl)
  have hwr: ∀wx,Calls Tryz.prog 71 #[.int .i64 x.n,.int .i64 0,.int .i64 ((u.funs.length:Int)-1)] wx fun e w'=>e= .returned (.bool false)/\w'=wx:=fun wx=>by
   have:=within_any x.n 0 ((u.funs.length:Int)-1) wx
   rw [hw]at this
   exact this.mono fun _ _ ⟨a,b⟩=>⟨a,b.symm⟩
  clear hw E
  go_enter Tryz.func41,Tryz.ntmps41
  go_wp2_with fail
  go_quiet ((go_at_call 71;exact Calls.quiet_of_same (hwr _)))
  go_wp2_with fail
  go_ret
  exact⟨retb E2.out.symm,below_drewN (Below.refl _ _) _⟩
 |true=>
  have hr:0<=x.n/\x.n<=(u.funs.length:Int)-1:=by
   unfold wi at hw
   rw [Bool.and_eq_true,decide_eq_true_eq,decide_eq_true_eq]at hw
   exact hw
  obtain⟨m,hm⟩:=Int.eq_ofNat_of_zero_le hr.1
  have hml:m<u.funs.length:=by omega
  obtain⟨b2,off,hao,hb2,q0,q1,q2,_,_,_⟩:=HF.out.fn hml
  subst hao
  have E2:Hid (numberB u.funcs.length u.funs x=decide ((x.src.length:Int)=u.funs[m].free)):=Lib.hid (by
   rw [E.out,hw,hm]
   have:u.funs[(((m:Nat):Int)).toNat]?=some u.funs[m]:=by rw [Int.toNat_natCast];exact List.getElem?_eq_getElem hml
   rw [this];rfl)
  have hwr: ∀wx,Calls Tryz.prog 71 #[.int .i64 (m:Int),.int .i64 0,.int .i64 ((u.funs.length:Int)-1)] wx fun e w'=>e= .returned (.bool true)/\w'=wx:=fun wx=>by
   have:=within_any (m:Int) 0 ((u.funs.length:Int)-1) wx
   rw [<-hm,hw]at this
   rw [<-hm]
   exact this.mono fun _ _ ⟨a,b⟩=>⟨a,b.symm⟩
  rw [hm]at c5
  clear hw hr E r1a r1b
  generalize u.funs[m].free=z at *
  generalize x.n=xn at *
  by_cases hz:(x.src.length:Int)=z
  ·have E3:Hid (numberB u.funcs.length u.funs x=true):=Lib.hid (by rw [E2.out,decide_eq_true hz])
   have t:((x.src.length:Int)==z)=true:=by rw [hz];exact beq_self_eq_true _
   clear hz hm
   go_enter Tryz.func41,Tryz.ntmps41
   go_wp2_with fail
   go_quiet ((go_at_call 71;exact Calls.quiet_of_same (hwr _)))
   go_wp2_with fail
   go_ret
   exact⟨retb E3.out.symm,below_drewN (Below.refl _ _) _⟩
  ·have E3:Hid (numberB u.funcs.length u.funs x=false):=Lib.hid (by rw [E2.out,decide_eq_false hz])
   have t:((x.src.length:Int)==z)=false:=beq_eq_false_iff_ne.2 hz
   clear hz hm
   go_enter Tryz.func41,Tryz.ntmps41
   go_wp2_with fail
   go_quiet ((go_at_call 71;exact Calls.quiet_of_same (hwr _)))
   go_wp2_with fail
   go_ret
   exact⟨retb E3.out.symm,below_drewN (Below.refl _ _) _⟩
theorem number_any (B:Nat) (u:RUnit) (lo' fo go' co':Option Addr) (lc fc gc' cc':Nat) (b o:Nat) (x:RIns) (so co go:Option Addr) (sc cc gc:Nat) (w:World) (hu:UBox w B u lo' fo go' co' lc fc gc' cc') (hl:u.funcs.length<=9223372036854775807) (hl2:u.funs.length<=9223372036854775807) (hf:SlAt w 3 FunR go' u.funs) (hx:IBox w b o x so co go sc cc gc):
  Calls Tryz.prog 41 #[.pointer (some ⟨B,0,none⟩),.pointer (some ⟨b,o,none⟩)] w fun e w'=>e= .returned (.bool (numberB u.funcs.length u.funs x))/\Below w.heap.size w w':=by
 by_cases h5:x.op=5
 ·exact number_5 B u lo' fo go' co' lc fc gc' cc' b o x so co go sc cc gc w hu hl hl2 hf hx h5
 by_cases h9:x.op=9
 ·exact number_9 B u lo' fo go' co' lc fc gc' cc' b o x so co go sc cc gc w hu hl hl2 hf hx h9
 by_cases h15:x.op=15
 ·exact number_15 B u lo' fo go' co' lc fc gc' cc' b o x so co go sc cc gc w hu hl hl2 hf hx h15
 by_cases h18:x.op=18
 ·exact number_18 B u lo' fo go' co' lc fc gc' cc' b o x so co go sc cc gc w hu hl hl2 hf hx h18
 by_cases h19:x.op=19
 ·exact number_19 B u lo' fo go' co' lc fc gc' cc' b o x so co go sc cc gc w hu hl hl2 hf hx h19
 by_cases h20:x.op=20
 ·exact number_20 B u lo' fo go' co' lc fc gc' cc' b o x so co go sc cc gc w hu hl hl2 hf hx h20
 by_cases h21:x.op=21
 ·exact number_21 B u lo' fo go' co' lc fc gc' cc' b o x so co go sc cc gc w hu hl hl2 hf hx h21
 by_cases h24:x.op=24
 ·exact number_24 B u lo' fo go' co' lc fc gc' cc' b o x so co go sc cc gc w hu hl hl2 hf hx h24
 by_cases h31:x.op=31
 ·exact number_31 B u lo' fo go' co' lc fc gc' cc' b o x so co go sc cc gc w hu hl hl2 hf hx h31
 by_cases h16:x.op=16
 ·exact number_16 B u lo' fo go' co' lc fc gc' cc' b o x so co go sc cc gc w hu hl hl2 hf hx h16
 by_cases h17:x.op=17
 ·exact number_17 B u lo' fo go' co' lc fc gc' cc' b o x so co go sc cc gc w hu hl hl2 hf hx h17
 by_cases h32:x.op=32
 ·exact number_32 B u lo' fo go' co' lc fc gc' cc' b o x so co go sc cc gc w hu hl hl2 hf hx h32
 by_cases h33:x.op=33
 ·exact number_33 B u lo' fo go' co' lc fc gc' cc' b o x so co go sc cc gc w hu hl hl2 hf hx h33
 by_cases h4:x.op=4
 ·exact number_4 B u lo' fo go' co' lc fc gc' cc' b o x so co go sc cc gc w hu hl hl2 hf hx h4
 exact number_rest B u lo' fo go' co' lc fc gc' cc' b o x so co go sc cc gc w hu hl hl2 hf hx h5 h9 h15 h18 h19 h20 h21 h24 h31 h16 h17 h32 h33 h4
section
variable {H:Type} {enc:TypeId × Value->H} {P:Program} {w:World} {base:Nat} {spare:Nat->Bool} {held:Bool}
def Wt (P:Program) (t:TypeId) (d:DataW H):Prop:=(d.weights P t).all (· <=reachBytes)=true
theorem wt_each: ∀(ts:List TypeId) (ds:List (DataW H)),(DataW.weightsEach P ts ds).all (· <=reachBytes)=true-> ∀(i:Nat) (t:TypeId) (d:DataW H),ts[i]?=some t->ds[i]?=some d->Wt P t d
 |[],_,_,i,t,d,h,_=>by simp at h
 |_::_,[],_,i,t,d,_,h=>by simp at h
 |t0::ts,d0::ds,h,i,t,d,ht,hd=>by
  unfold DataW.weightsEach at h
  rw [List.all_append,Bool.and_eq_true]at h
  cases i with
  |zero=>
   simp at ht hd
   subst ht;subst hd
   exact h.1
  |succ i=>exact wt_each ts ds h.2 i t d (by simpa using ht) (by simpa using hd)
theorem wt_all (e:TypeId): ∀(ds:List (DataW H)),(DataW.weightsAll P e ds).all (· <=reachBytes)=true-> ∀d∈ds,Wt P e d
 |[],_,_,h=>by cases h
 |d0::ds,h,d,hd=>by
  unfold DataW.weightsAll at h
  rw [List.all_append,Bool.and_eq_true]at h
  rcases List.mem_cons.1 hd with rfl|hd
  ·exact h.1
  ·exact wt_all e ds h.2 d hd
theorem open_field {t:TypeId} {fuel:Nat} {cs:List Value} {x:DataW H × List MemPlace} {fs:Array Field} (hS:P.underlying t=some (.struct fs)) (h:DataW.trod enc P w base spare held fuel t cs=some x) (hw:Wt P t x.1):
  ∃n,fuel=n+1/\cs.length=P.cellsOf t/\ ∀(i:Nat) (f:Field) (ty:TypeId) (o m:Nat),fs[i]?=some f->f.type=ty->f.offset=o->P.cellsOf ty=m-> ∃y,DataW.trod enc P w base spare held n ty ((cs.drop o).take m)=some y/\Wt P ty y.1:=by
 obtain⟨xs,n,rfl,rfl,hl,hxl,hx⟩:=DataW.trod_struct hS h
 refine⟨n,rfl,hl,fun i f ty o m hf e1 e2 e3=>?_⟩
 have hi:=hx i f hf
 have hil:i<xs.length:=by rw [hxl];exact(Array.getElem?_eq_some_iff.1 hf).1
 rw [List.getElem?_eq_getElem hil]at hi
 refine⟨xs[i],by rw [<-e1,<-e2,<-e3,<-e1];exact hi,?_⟩
 unfold Wt DataW.weights at hw
 simp only [hS]at hw
 refine wt_each _ _ hw i ty _ ?_ (by rw [List.getElem?_map,List.getElem?_eq_getElem hil];rfl)
 rw [List.getElem?_map,<-e1]
 simp [hf]
theorem open_strw {t:TypeId} {fuel:Nat} {cs:List Value} {x:DataW H × List MemPlace} (ht:P.underlying t=some .string) (h:DataW.trod enc P w base spare held fuel t cs=some x) (hw:Wt P t x.1): ∃s,cs= [.string s]/\s.size<=140737488351232:=by
 obtain⟨s,e,rfl,hs⟩:=DataW.trod_string ht h
 refine⟨s,e,?_⟩
 unfold Wt DataW.weights at hw
 have h1:s.data.toList.length<=reachBytes:=of_decide_eq_true (List.all_eq_true.1 hw _ (List.mem_singleton.2 rfl))
 rw [Array.length_toList]at h1
 exact h1
theorem open_boolw {t:TypeId} {fuel:Nat} {cs:List Value} {x:DataW H × List MemPlace} (ht:P.underlying t=some .bool) (h:DataW.trod enc P w base spare held fuel t cs=some x): ∃b,cs= [.bool b]:=by
 obtain⟨b,e,_⟩:=DataW.trod_bool ht h
 exact⟨b,e⟩
theorem open_slw {α:Type} {t e:TypeId} {size fuel:Nat} {cs:List Value} {x:DataW H × List MemPlace} (R:List Value->α->Prop) (ht:P.underlying t=some (.slice e)) (hC:P.cellsOf e=size) (h0:0<size)
  (h:DataW.trod enc P w base spare held fuel t cs=some x) (hw:Wt P t x.1)
  (hR: ∀n cs' y,n<fuel->cs'.length=size->DataW.trod enc P w base spare held n e cs'=some y->Wt P e y.1-> ∃a,R cs' a):
  ∃ao c l,cs= [.slice ao l.length c]/\SlAt w size R ao l/\l.length<=maxLen:=by
 rcases DataW.trod_slice ht h with⟨e1,_⟩|⟨a,len,cap,elems,rest,n,hf,e1,rfl,hb,hl,hm,hlen,hel,_,_⟩
 ·exact⟨none,0,[],e1,.inl rfl,Nat.zero_le _⟩
 ·have hwe: ∀d∈elems.map (·.1),Wt P e d:=by
   unfold Wt DataW.weights at hw
   simp only [ht]at hw
   rw [List.all_cons,List.all_append,Bool.and_eq_true,Bool.and_eq_true]at hw
   exact wt_all e _ hw.2.1
  have each: ∀i,i<len-> ∃(x:α) (cs':List Value),cs'.length=size/\(∀k,k<size->w.cell? ((a.add (i*size)).add k)=cs'[k]?)/\R cs' x:=fun i hi=>by
   have hx:=hel i hi
   have hil:i<elems.length:=by omega
   rw [List.getElem?_eq_getElem hil,Option.bind_eq_some_iff]at hx
   obtain⟨cs',hc,ht'⟩:=hx
   rw [hC]at hc
   obtain⟨_,hcl,hat⟩:=World.cells?_some hc
   obtain⟨x,hx⟩:=hR n cs' _ (by omega) hcl ht' (hwe _ (List.mem_map.2 ⟨_,List.getElem_mem hil,rfl⟩))
   exact⟨x,cs',hcl,hat,hx⟩
  have all: ∀m,m<=len-> ∃l:List α,l.length=m/\ ∀j (h:j<l.length),∃cs':List Value,cs'.length=size/\(∀k,k<size->w.cell? ((a.add (j*size)).add k)=cs'[k]?)/\R cs' l[j]:=by
   intro m
   induction m with
   |zero=>exact fun _=>⟨[],rfl,fun j h=>absurd h (Nat.not_lt_zero _)⟩
   |succ m ih=>
    intro hm'
    obtain⟨l,hl',hr⟩:=ih (by omega)
    obtain⟨x,cs',h1,h2,h3⟩:=each m (by omega)
    refine⟨l++ [x],by simp [hl'],fun j hj=>?_⟩
    by_cases hjl:j<l.length
    ·obtain⟨cs2,g1,g2,g3⟩:=hr j hjl
     exact⟨cs2,g1,g2,by rw [List.getElem_append_left hjl];exact g3⟩
    ·have hj2:j=m:=by simp at hj;omega
     subst hj2
     refine⟨cs',h1,h2,?_⟩
     rw [List.getElem_append_right (by omega)]
     simpa [hl'] using h3
  obtain⟨l,hl2,hr⟩:=all len (Nat.le_refl _)
  refine⟨some a,cap,l,by rw [hl2];exact e1,?_,by omega⟩
  rcases Nat.eq_zero_or_pos len with hz|hz
  ·left;exact List.eq_nil_of_length_eq_zero (by omega)
  ·right
   obtain⟨cs0,k1,k2,_⟩:=hr 0 (by omega)
   have hc0:w.cell? a=some (cs0[0]'(by omega)):=by
    have:=k2 0 h0
    rw [Nat.zero_mul]at this
    rw [<-List.getElem?_eq_getElem,<-this];rfl
   have hsp:=World.cell?_spot (a:=a) hc0
   obtain⟨b,off,sp⟩:=a
   simp only at hsp
   subst hsp
   have hadd: ∀k,(⟨b,off,none⟩:Addr).add k=⟨b,off+k,none⟩:=fun k=>by unfold Addr.add;split<;>simp_all
   have hadd2: ∀o k,(⟨b,o,none⟩:Addr).add k=⟨b,o+k,none⟩:=fun o k=>by unfold Addr.add;split<;>simp_all
   refine⟨b,off,rfl,?_,fun j hj=>?_⟩
   ·rcases Nat.lt_or_ge b w.heap.size with h|h
    ·exact h
    ·simp [World.cell?,Array.getElem?_eq_none h]at hc0
   ·obtain⟨cs2,g1,g2,g3⟩:=hr j hj
    refine⟨cs2,g1,fun i hi=>?_,g3⟩
    have:=g2 i hi
    rwa [hadd,hadd2]at this
end
theorem cI:Tryz.prog.cellsOf 3=1:=by kernel_rfl
theorem cI64:Tryz.prog.cellsOf 2=1:=by kernel_rfl
theorem cS:Tryz.prog.cellsOf 9=1:=by kernel_rfl
theorem cB:Tryz.prog.cellsOf 4=1:=by kernel_rfl
theorem cArg:Tryz.prog.cellsOf 42=2:=by kernel_rfl
theorem cCase:Tryz.prog.cellsOf 111=2:=by kernel_rfl
theorem cSeg:Tryz.prog.cellsOf 113=6:=by kernel_rfl
theorem cFunc:Tryz.prog.cellsOf 106=4:=by kernel_rfl
theorem cFun:Tryz.prog.cellsOf 70=3:=by kernel_rfl
theorem cIns:Tryz.prog.cellsOf 47=10:=by kernel_rfl
theorem cTerm:Tryz.prog.cellsOf 116=9:=by kernel_rfl
theorem cUnit:Tryz.prog.cellsOf 27=6:=by kernel_rfl
theorem cTerms:Tryz.prog.cellsOf 22=1:=by kernel_rfl
theorem cArgs:Tryz.prog.cellsOf 43=1:=by kernel_rfl
theorem cCases:Tryz.prog.cellsOf 44=1:=by kernel_rfl
theorem cSegs:Tryz.prog.cellsOf 45=1:=by kernel_rfl
theorem cFuncs:Tryz.prog.cellsOf 23=1:=by kernel_rfl
theorem cFuns:Tryz.prog.cellsOf 24=1:=by kernel_rfl
theorem cCode:Tryz.prog.cellsOf 25=1:=by kernel_rfl
theorem len2 {cs:List Value} (h:cs.length=2): ∃a b,cs= [a,b]:=by
 match cs,h with
 |[a,b],_=>exact⟨a,b,rfl⟩
theorem len3 {cs:List Value} (h:cs.length=3): ∃a b c,cs= [a,b,c]:=by
 match cs,h with
 |[a,b,c],_=>exact⟨a,b,c,rfl⟩
theorem len4 {cs:List Value} (h:cs.length=4): ∃a b c d,cs= [a,b,c,d]:=by
 match cs,h with
 |[a,b,c,d],_=>exact⟨a,b,c,d,rfl⟩
theorem len6 {cs:List Value} (h:cs.length=6): ∃a b c d e f,cs= [a,b,c,d,e,f]:=by
 match cs,h with
 |[a,b,c,d,e,f],_=>exact⟨a,b,c,d,e,f,rfl⟩
theorem len9 {cs:List Value} (h:cs.length=9): ∃a b c d e f g i j,cs= [a,b,c,d,e,f,g,i,j]:=by
 match cs,h with
 |[a,b,c,d,e,f,g,i,j],_=>exact⟨a,b,c,d,e,f,g,i,j,rfl⟩
theorem len10 {cs:List Value} (h:cs.length=10): ∃a b c d e f g i j k,cs= [a,b,c,d,e,f,g,i,j,k]:=by
 match cs,h with
 |[a,b,c,d,e,f,g,i,j,k],_=>exact⟨a,b,c,d,e,f,g,i,j,k,rfl⟩
theorem one_eq {a b:Value} (h: [a]= [b]):a=b:=by injection h
section
variable {H:Type} {enc:TypeId × Value->H} {w:World} {base:Nat} {spare:Nat->Bool} {held:Bool} {fuel:Nat} {cs:List Value} {x:DataW H × List MemPlace}
theorem open_arg (h:DataW.trod enc Tryz.prog w base spare held fuel 42 cs=some x) (hw:Wt Tryz.prog 42 x.1): ∃a,ArgR cs a:=by
 obtain⟨n,rfl,hl,hf⟩:=open_field Tryz.underlying42 h hw
 rw [cArg]at hl
 obtain⟨a,b,rfl⟩:=len2 hl
 obtain⟨y0,h0,_⟩:=hf 0 _ 3 0 1 rfl rfl rfl cI
 obtain⟨y1,h1,_⟩:=hf 1 _ 3 1 1 rfl rfl rfl cI
 obtain⟨n0,e0,i0⟩:=open_i64 Tryz.underlying3 h0
 obtain⟨n1,e1,i1⟩:=open_i64 Tryz.underlying3 h1
 obtain rfl:=one_eq e0
 obtain rfl:=one_eq e1
 exact⟨⟨n0,n1⟩,rfl,i0,i1⟩
theorem open_case (h:DataW.trod enc Tryz.prog w base spare held fuel 111 cs=some x) (hw:Wt Tryz.prog 111 x.1): ∃a,CaseR cs a:=by
 obtain⟨n,rfl,hl,hf⟩:=open_field Tryz.underlying111 h hw
 rw [cCase]at hl
 obtain⟨a,b,rfl⟩:=len2 hl
 obtain⟨y0,h0,_⟩:=hf 0 _ 3 0 1 rfl rfl rfl cI
 obtain⟨y1,h1,_⟩:=hf 1 _ 3 1 1 rfl rfl rfl cI
 obtain⟨n0,e0,i0⟩:=open_i64 Tryz.underlying3 h0
 obtain⟨n1,e1,i1⟩:=open_i64 Tryz.underlying3 h1
 obtain rfl:=one_eq e0
 obtain rfl:=one_eq e1
 exact⟨⟨n0,n1⟩,rfl,i0,i1⟩
theorem open_seg (h:DataW.trod enc Tryz.prog w base spare held fuel 113 cs=some x) (hw:Wt Tryz.prog 113 x.1): ∃a,SegR cs a:=by
 obtain⟨n,rfl,hl,hf⟩:=open_field Tryz.underlying113 h hw
 rw [cSeg]at hl
 obtain⟨a,b,c,d,e,f,rfl⟩:=len6 hl
 obtain⟨y0,h0,_⟩:=hf 0 _ 3 0 1 rfl rfl rfl cI
 obtain⟨y1,h1,w1⟩:=hf 1 _ 42 1 2 rfl rfl rfl cArg
 obtain⟨y2,h2,w2⟩:=hf 2 _ 42 3 2 rfl rfl rfl cArg
 obtain⟨y3,h3,_⟩:=hf 3 _ 4 5 1 rfl rfl rfl cB
 obtain⟨n0,e0,i0⟩:=open_i64 Tryz.underlying3 h0
 obtain⟨a1,e1,i1,j1⟩:=open_arg h1 w1
 obtain⟨a2,e2,i2,j2⟩:=open_arg h2 w2
 obtain⟨b3,e3⟩:=open_boolw Tryz.underlying4 h3
 obtain rfl:=one_eq e0
 obtain rfl:=one_eq e3
 have e1': [b,c]= [Value.int .i64 a1.kind,.int .i64 a1.n]:=e1
 have e2': [d,e]= [Value.int .i64 a2.kind,.int .i64 a2.n]:=e2
 simp only [List.cons.injEq,and_true]at e1' e2'
 obtain⟨rfl,rfl⟩:=e1'
 obtain⟨rfl,rfl⟩:=e2'
 exact⟨⟨n0,a1,a2,b3⟩,rfl,i0,i1,j1,i2,j2⟩
theorem open_func (h:DataW.trod enc Tryz.prog w base spare held fuel 106 cs=some x) (hw:Wt Tryz.prog 106 x.1): ∃a,FuncR cs a:=by
 obtain⟨n,rfl,hl,hf⟩:=open_field Tryz.underlying106 h hw
 rw [cFunc]at hl
 obtain⟨a,b,c,d,rfl⟩:=len4 hl
 obtain⟨y0,h0,_⟩:=hf 0 _ 9 0 1 rfl rfl rfl cS
 obtain⟨y1,h1,_⟩:=hf 1 _ 3 1 1 rfl rfl rfl cI
 obtain⟨y2,h2,_⟩:=hf 2 _ 4 2 1 rfl rfl rfl cB
 obtain⟨y3,h3,_⟩:=hf 3 _ 3 3 1 rfl rfl rfl cI
 obtain⟨s0,e0,i0⟩:=open_str Tryz.underlying9 h0
 obtain⟨n1,e1,i1⟩:=open_i64 Tryz.underlying3 h1
 obtain⟨b2,e2⟩:=open_boolw Tryz.underlying4 h2
 obtain⟨n3,e3,i3⟩:=open_i64 Tryz.underlying3 h3
 obtain rfl:=one_eq e0
 obtain rfl:=one_eq e1
 obtain rfl:=one_eq e2
 obtain rfl:=one_eq e3
 exact⟨⟨s0,n1,b2,n3⟩,rfl,i0,i1,i3⟩
theorem open_fun (h:DataW.trod enc Tryz.prog w base spare held fuel 70 cs=some x) (hw:Wt Tryz.prog 70 x.1): ∃a,FunR cs a:=by
 obtain⟨n,rfl,hl,hf⟩:=open_field Tryz.underlying70 h hw
 rw [cFun]at hl
 obtain⟨a,b,c,rfl⟩:=len3 hl
 obtain⟨y0,h0,_⟩:=hf 0 _ 3 0 1 rfl rfl rfl cI
 obtain⟨y1,h1,_⟩:=hf 1 _ 3 1 1 rfl rfl rfl cI
 obtain⟨y2,h2,_⟩:=hf 2 _ 3 2 1 rfl rfl rfl cI
 obtain⟨n0,e0,i0⟩:=open_i64 Tryz.underlying3 h0
 obtain⟨n1,e1,i1⟩:=open_i64 Tryz.underlying3 h1
 obtain⟨n2,e2,i2⟩:=open_i64 Tryz.underlying3 h2
 obtain rfl:=one_eq e0
 obtain rfl:=one_eq e1
 obtain rfl:=one_eq e2
 exact⟨⟨n0,n1,n2⟩,rfl,i0,i1,i2⟩
def InsN (w:World) (cs:List Value) (x:RIns):Prop:=InsR w cs x/\x.name.size<=140737488351232
theorem open_ins (h:DataW.trod enc Tryz.prog w base spare held fuel 47 cs=some x) (hw:Wt Tryz.prog 47 x.1): ∃a,InsN w cs a:=by
 obtain⟨n,rfl,hl,hf⟩:=open_field Tryz.underlying47 h hw
 rw [cIns]at hl
 obtain⟨a,b,c,d,e,f,g,i,j,k,rfl⟩:=len10 hl
 obtain⟨y0,h0,_⟩:=hf 0 _ 3 0 1 rfl rfl rfl cI
 obtain⟨y1,h1,w1⟩:=hf 1 _ 42 1 2 rfl rfl rfl cArg
 obtain⟨y2,h2,w2⟩:=hf 2 _ 43 3 1 rfl rfl rfl cArgs
 obtain⟨y3,h3,_⟩:=hf 3 _ 3 4 1 rfl rfl rfl cI
 obtain⟨y4,h4,_⟩:=hf 4 _ 3 5 1 rfl rfl rfl cI
 obtain⟨y5,h5,_⟩:=hf 5 _ 3 6 1 rfl rfl rfl cI
 obtain⟨y6,h6,w6⟩:=hf 6 _ 9 7 1 rfl rfl rfl cS
 obtain⟨y7,h7,w7⟩:=hf 7 _ 44 8 1 rfl rfl rfl cCases
 obtain⟨y8,h8,w8⟩:=hf 8 _ 45 9 1 rfl rfl rfl cSegs
 obtain⟨n0,e0,i0⟩:=open_i64 Tryz.underlying3 h0
 obtain⟨a1,e1,i1,j1⟩:=open_arg h1 w1
 obtain⟨so,sc,l2,e2,s2,b2⟩:=open_slw ArgR Tryz.underlying43 cArg (by decide) h2 w2 (fun n cs' y _ _ hy wy=>open_arg hy wy)
 obtain⟨n3,e3,i3⟩:=open_i64 Tryz.underlying3 h3
 obtain⟨n4,e4,i4⟩:=open_i64 Tryz.underlying3 h4
 obtain⟨n5,e5,i5⟩:=open_i64 Tryz.underlying3 h5
 obtain⟨s6,e6,i6⟩:=open_strw Tryz.underlying9 h6 w6
 obtain⟨co,cc,l7,e7,s7,b7⟩:=open_slw CaseR Tryz.underlying44 cCase (by decide) h7 w7 (fun n cs' y _ _ hy wy=>open_case hy wy)
 obtain⟨go,gc,l8,e8,s8,b8⟩:=open_slw SegR Tryz.underlying45 cSeg (by decide) h8 w8 (fun n cs' y _ _ hy wy=>open_seg hy wy)
 obtain rfl:=one_eq e0
 obtain rfl:=one_eq e2
 obtain rfl:=one_eq e3
 obtain rfl:=one_eq e4
 obtain rfl:=one_eq e5
 obtain rfl:=one_eq e6
 obtain rfl:=one_eq e7
 obtain rfl:=one_eq e8
 have e1': [b,c]= [Value.int .i64 a1.kind,.int .i64 a1.n]:=e1
 simp only [List.cons.injEq,and_true]at e1'
 obtain⟨rfl,rfl⟩:=e1'
 exact⟨⟨n0,a1,l2,n3,n4,n5,s6,l7,l8⟩,⟨⟨so,sc,co,cc,go,gc,rfl,s2,s7,s8⟩,i0,i1,j1,b2,i3,i4,i5,Nat.le_trans i6 (by decide),b7,b8⟩,i6⟩
end
section
variable {H:Type} {enc:TypeId × Value->H} {w:World} {base:Nat} {spare:Nat->Bool} {held:Bool}
theorem open_tm: ∀(fuel:Nat) {cs:List Value} {x:DataW H × List MemPlace},DataW.trod enc Tryz.prog w base spare held fuel 116 cs=some x->Wt Tryz.prog 116 x.1-> ∃t,TmA w cs t:=by
 intro fuel
 induction fuel using Nat.strongRecOn with
 |_ fuel ih=>
  intro cs x h hw
  obtain⟨n,rfl,hl,hf⟩:=open_field Tryz.underlying116 h hw
  rw [cTerm]at hl
  obtain⟨a,b,c,d,e,f,g,i,j,rfl⟩:=len9 hl
  obtain⟨y0,h0,_⟩:=hf 0 _ 3 0 1 rfl rfl rfl cI
  obtain⟨y1,h1,_⟩:=hf 1 _ 2 1 1 rfl rfl rfl cI64
  obtain⟨y2,h2,_⟩:=hf 2 _ 2 2 1 rfl rfl rfl cI64
  obtain⟨y3,h3,_⟩:=hf 3 _ 9 3 1 rfl rfl rfl cS
  obtain⟨y4,h4,_⟩:=hf 4 _ 9 4 1 rfl rfl rfl cS
  obtain⟨y5,h5,_⟩:=hf 5 _ 3 5 1 rfl rfl rfl cI
  obtain⟨y6,h6,w6⟩:=hf 6 _ 22 6 1 rfl rfl rfl cTerms
  obtain⟨y7,h7,_⟩:=hf 7 _ 9 7 1 rfl rfl rfl cS
  obtain⟨y8,h8,_⟩:=hf 8 _ 3 8 1 rfl rfl rfl cI
  obtain⟨n0,e0,i0⟩:=open_i64 Tryz.underlying3 h0
  obtain⟨n1,e1,i1⟩:=open_i64 Tryz.underlying2 h1
  obtain⟨n2,e2,i2⟩:=open_i64 Tryz.underlying2 h2
  obtain⟨s3,e3,i3⟩:=open_str Tryz.underlying9 h3
  obtain⟨s4,e4,i4⟩:=open_str Tryz.underlying9 h4
  obtain⟨n5,e5,i5⟩:=open_i64 Tryz.underlying3 h5
  obtain⟨ao,ac,l6,e6,s6,b6⟩:=open_slw (TmA w) Tryz.underlying22 cTerm (by decide) h6 w6 (fun m cs' y hm _ hy wy=>ih m (by omega) hy wy)
  obtain⟨s7,e7,i7⟩:=open_str Tryz.underlying9 h7
  obtain⟨n8,e8,i8⟩:=open_i64 Tryz.underlying3 h8
  obtain rfl:=one_eq e0
  obtain rfl:=one_eq e1
  obtain rfl:=one_eq e2
  obtain rfl:=one_eq e3
  obtain rfl:=one_eq e4
  obtain rfl:=one_eq e5
  obtain rfl:=one_eq e6
  obtain rfl:=one_eq e7
  obtain rfl:=one_eq e8
  obtain⟨q,hq⟩:=tms_depth s6
  exact⟨.mk n0 n1 n2 s3 s4 n5 l6 s7 n8,q+1,⟨ao,ac,rfl,hq⟩,i0,i1,i2,i3,i4,i5,b6,i7,i8⟩
end
theorem open_unit {H:Type} {enc:TypeId × Value->H} {W:World} {base b0:Nat} {spare:Nat->Bool} {held:Bool} {r:Reach} {v:Value} {d:DataW H} {p:List MemPlace}
  (hv:Value.okWide Tryz.prog W r b0 27 v) (h:DataW.Trod enc Tryz.prog W base spare held 27 v d p) (hw:Wt Tryz.prog 27 d):
  ∃(u:RUnit) (lo fo go co:Option Addr) (lc fc gc cc:Nat),v= .agg #[.string u.mdl,.int .i64 u.vsn,.slice lo u.lits.length lc,.slice fo u.funcs.length fc,.slice go u.funs.length gc,.slice co u.code.length cc]/\UP W u lo fo go co/\ ∀x∈u.code,x.name.size<=140737488351232:=by
 obtain⟨cs,rfl,_⟩: ∃cs,v= .agg cs/\True:=by
  unfold Value.okWide at hv
  simp only [Tryz.underlying27]at hv
  obtain⟨cs,e,_⟩:=hv
  exact⟨cs,e,trivial⟩
 obtain⟨fuel,hf0⟩:=h
 obtain⟨n,rfl,hl,hf⟩:=open_field Tryz.underlying27 hf0 hw
 rw [cUnit]at hl
 have hcs:(Value.agg cs).cells.toList=cs.toList:=rfl
 rw [hcs]at hl hf
 obtain⟨a,b,c,e,f,g,hcl⟩:=len6 hl
 obtain rfl:cs=#[a,b,c,e,f,g]:=Array.toList_inj.1 hcl
 obtain⟨y0,h0,w0⟩:=hf 0 _ 9 0 1 rfl rfl rfl cS
 obtain⟨y1,h1,_⟩:=hf 1 _ 2 1 1 rfl rfl rfl cI64
 obtain⟨y2,h2,w2⟩:=hf 2 _ 22 2 1 rfl rfl rfl cTerms
 obtain⟨y3,h3,w3⟩:=hf 3 _ 23 3 1 rfl rfl rfl cFuncs
 obtain⟨y4,h4,w4⟩:=hf 4 _ 24 4 1 rfl rfl rfl cFuns
 obtain⟨y5,h5,w5⟩:=hf 5 _ 25 5 1 rfl rfl rfl cCode
 obtain⟨s0,e0,i0⟩:=open_str Tryz.underlying9 h0
 obtain⟨n1,e1,i1⟩:=open_i64 Tryz.underlying2 h1
 obtain⟨lo,lc,l2,e2,s2,b2⟩:=open_slw (TmA W) Tryz.underlying22 cTerm (by decide) h2 w2 (fun m cs' y hm _ hy wy=>open_tm m hy wy)
 obtain⟨fo,fc,l3,e3,s3,b3⟩:=open_slw FuncR Tryz.underlying23 cFunc (by decide) h3 w3 (fun m cs' y hm _ hy wy=>open_func hy wy)
 obtain⟨go,gc,l4,e4,s4,b4⟩:=open_slw FunR Tryz.underlying24 cFun (by decide) h4 w4 (fun m cs' y hm _ hy wy=>open_fun hy wy)
 obtain⟨co,cc,l5,e5,s5,b5⟩:=open_slw (InsN W) Tryz.underlying25 cIns (by decide) h5 w5 (fun m cs' y hm _ hy wy=>open_ins hy wy)
 obtain rfl:=one_eq e0
 obtain rfl:=one_eq e1
 obtain rfl:=one_eq e2
 obtain rfl:=one_eq e3
 obtain rfl:=one_eq e4
 obtain rfl:=one_eq e5
 refine⟨⟨s0,n1,l2,l3,l4,l5⟩,lo,fo,go,co,lc,fc,gc,cc,rfl,⟨s2,s3,s4,s5.imp fun _ _ h=>h.1,i0,i1,b2,b3,b4,b5⟩,fun x hx=>?_⟩
 obtain⟨j,hj,rfl⟩:=List.getElem_of_mem hx
 obtain⟨_,_,_,_,hr⟩:=s5.row hj
 obtain⟨_,_,_,hr2⟩:=hr j hj
 exact hr2.2
theorem open_instr {H:Type} {enc:TypeId × Value->H} {W:World} {base b0:Nat} {spare:Nat->Bool} {held:Bool} {r:Reach} {v:Value} {d:DataW H} {p:List MemPlace}
  (hv:Value.okWide Tryz.prog W r b0 47 v) (h:DataW.Trod enc Tryz.prog W base spare held 47 v d p) (hw:Wt Tryz.prog 47 d):
  ∃(z:RIns) (so zo zs:Option Addr) (sc zc zsc:Nat),v= .agg #[.int .i64 z.op,.int .i64 z.dst.kind,.int .i64 z.dst.n,.slice so z.src.length sc,.int .i64 z.to,.int .i64 z.n,.int .i64 z.live,.string z.name,.slice zo z.cases.length zc,.slice zs z.segs.length zsc] /\
   InsR W [.int .i64 z.op,.int .i64 z.dst.kind,.int .i64 z.dst.n,.slice so z.src.length sc,.int .i64 z.to,.int .i64 z.n,.int .i64 z.live,.string z.name,.slice zo z.cases.length zc,.slice zs z.segs.length zsc] z/\z.name.size<=140737488351232:=by
 obtain⟨cs,rfl,_⟩: ∃cs,v= .agg cs/\True:=by
  unfold Value.okWide at hv
  simp only [Tryz.underlying47]at hv
  obtain⟨cs,e,_⟩:=hv
  exact⟨cs,e,trivial⟩
 obtain⟨fuel,hf0⟩:=h
 obtain⟨z,⟨⟨so,sc,co,cc,go,gc,e,h1,h2,h3⟩,hr⟩,hn⟩:=open_ins hf0 hw
 have hcs:(Value.agg cs).cells.toList=cs.toList:=rfl
 rw [hcs]at e
 have e':cs=#[.int .i64 z.op,.int .i64 z.dst.kind,.int .i64 z.dst.n,.slice so z.src.length sc,.int .i64 z.to,.int .i64 z.n,.int .i64 z.live,.string z.name,.slice co z.cases.length cc,.slice go z.segs.length gc]:=Array.toList_inj.1 e
 subst e'
 exact⟨z,so,co,go,sc,cc,gc,rfl,⟨⟨so,sc,co,cc,go,gc,rfl,h1,h2,h3⟩,hr⟩,hn⟩
end Go.Proofs.YtepjanajflkakaaGreatDoor
