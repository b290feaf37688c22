/- part 4 -/
import Derived.Deep.DeepCutAuto
import Derived.Deep.CutBlock
import Derived.Maps.OwnOps
import Derived.Maps.OwnSet
import Derived.Maps.Views
import Derived.DeepKeys4
import Derived.WideKeyPair
import Derived.Great.BuildSlice
import Derived.Orders
import Derived.Laws.NewBlocks
import Derived.Laws.Tables
import Derived.Test.YtepjanajflkakaaGreatDoorKnownAll01
namespace Go.Proofs.YtepjanajflkakaaGreatDoor
open Go.RowKit
set_option linter.unusedVariables false
set_option linter.unusedSimpArgs false
set_option maxRecDepth 100000
set_option maxHeartbeats 40000000
structure IBox (w:World) (b o:Nat) (x:RIns) (so co go:Option Addr) (sc cc gc:Nat):Prop where
 lt:b<w.heap.size
 c0:w.cell? ⟨b,o,none⟩=some (.int .i64 x.op)
 c1:w.cell? ⟨b,o+1,none⟩=some (.int .i64 x.dst.kind)
 c2:w.cell? ⟨b,o+2,none⟩=some (.int .i64 x.dst.n)
 c3:w.cell? ⟨b,o+3,none⟩=some (.slice so x.src.length sc)
 c4:w.cell? ⟨b,o+4,none⟩=some (.int .i64 x.to)
 c5:w.cell? ⟨b,o+5,none⟩=some (.int .i64 x.n)
 c6:w.cell? ⟨b,o+6,none⟩=some (.int .i64 x.live)
 c7:w.cell? ⟨b,o+7,none⟩=some (.string x.name)
 c8:w.cell? ⟨b,o+8,none⟩=some (.slice co x.cases.length cc)
 c9:w.cell? ⟨b,o+9,none⟩=some (.slice go x.segs.length gc)
 src:SlAt w 2 ArgR so x.src
 cases:SlAt w 2 CaseR co x.cases
 segs:SlAt w 6 SegR go x.segs
 rop:I64 x.op
 rdk:I64 x.dst.kind
 rdn:I64 x.dst.n
 rsrc:x.src.length<=9223372036854775807
 rto:I64 x.to
 rn:I64 x.n
 rlive:I64 x.live
 rname:x.name.size<=9223372036854775807
 rcases:x.cases.length<=9223372036854775807
 rsegs:x.segs.length<=9223372036854775807
theorem IBox.below {w w':World} {b o:Nat} {x:RIns} {so co go:Option Addr} {sc cc gc:Nat} (h:IBox w b o x so co go sc cc gc) (hb:Below w.heap.size w w'):IBox w' b o x so co go sc cc gc:=
 ⟨Nat.lt_of_lt_of_le h.lt hb.size,(hb.cell (p:=⟨b,o,none⟩) h.lt).trans h.c0,(hb.cell (p:=⟨b,o+1,none⟩) h.lt).trans h.c1,(hb.cell (p:=⟨b,o+2,none⟩) h.lt).trans h.c2,(hb.cell (p:=⟨b,o+3,none⟩) h.lt).trans h.c3,(hb.cell (p:=⟨b,o+4,none⟩) h.lt).trans h.c4,
  (hb.cell (p:=⟨b,o+5,none⟩) h.lt).trans h.c5,(hb.cell (p:=⟨b,o+6,none⟩) h.lt).trans h.c6,(hb.cell (p:=⟨b,o+7,none⟩) h.lt).trans h.c7,(hb.cell (p:=⟨b,o+8,none⟩) h.lt).trans h.c8,(hb.cell (p:=⟨b,o+9,none⟩) h.lt).trans h.c9,
  h.src.mono hb fun _ _ h=>h,h.cases.mono hb fun _ _ h=>h,h.segs.mono hb fun _ _ h=>h,h.rop,h.rdk,h.rdn,h.rsrc,h.rto,h.rn,h.rlive,h.rname,h.rcases,h.rsegs⟩
theorem ibox_of {w:World} {ao:Option Addr} {l:List RIns} (h:SlAt w 10 (InsR w) ao l) {k:Nat} (hk:k<l.length): ∃b off so co go sc cc gc,ao=some ⟨b,off,none⟩/\IBox w b (off+k*10) l[k] so co go sc cc gc:=by
 obtain⟨b,off,so,sc,co,cc,go,gc,e,hb,c0,c1,c2,c3,c4,c5,c6,c7,c8,c9,s1,s2,s3,r1,r2,r3,r4,r5,r6,r7,r8,r9,r10⟩:=h.ins hk
 exact⟨b,off,so,co,go,sc,cc,gc,e,hb,c0,c1,c2,c3,c4,c5,c6,c7,c8,c9,s1,s2,s3,r1,r2,r3,r4,r5,r6,r7,r8,r9,r10⟩
def dstB (nl:Nat) (x:RIns) (h:Nat):Bool:=if hasB h 1=true then !decide (x.dst.kind=3)&&opdB nl x.dst else decide (x.dst.kind=0)&&decide (x.dst.n=0)
def fieldsB (nl:Nat) (x:RIns) (h lo hi:Nat):Bool:=
 dstB nl x h&&(x.src.all (opdB nl)&&(wi x.src.length lo hi&&(wi x.live 0 256&&((hasB h 4||x.n==0)&&((hasB h 8||x.name.toList.isEmpty)&&((hasB h 64||x.to==0)&&((hasB h 128||x.live==0)&&((hasB h 16||x.cases.length==0)&&(hasB h 32||x.segs.length==0)))))))))
theorem fields_any (B:Nat) (u:RUnit) (lo' fo go' co':Option Addr) (lc fc gc' cc':Nat) (b o:Nat) (x:RIns) (so co go:Option Addr) (sc cc gc:Nat) (h lo hi:Nat) (w:World) (hu:UBox w B u lo' fo go' co' lc fc gc' cc') (hl:u.lits.length<=9223372036854775807) (hx:IBox w b o x so co go sc cc gc) (h1:h<1000) (h2:lo<1000) (h3:hi<1000):
  Calls Tryz.prog 40 #[.pointer (some ⟨B,0,none⟩),.pointer (some ⟨b,o,none⟩),.agg #[.int .i64 h,.int .i64 lo,.int .i64 hi]] w fun e w'=>e= .returned (.bool (fieldsB u.lits.length x h lo hi))/\Below w.heap.size w w':=by
 have hbe:Below w.heap.size w (w.alloc (.cells #[.int .i64 h,.int .i64 lo,.int .i64 hi] 97)):=(Below.refl _ _).alloc (Nat.le_refl _) _
 have HU:=Lib.hid (hu.below hbe);have HX:=Lib.hid (hx.below hbe)
 have hlt:=hx.lt
 have hC:(w.alloc (.cells #[.int .i64 h,.int .i64 lo,.int .i64 hi] 97)).heap[w.heap.size]?=some (.cells #[.int .i64 h,.int .i64 lo,.int .i64 hi] 97 (0,0)):=heap_alloc_new _ _
 clear hu hx
 go_enter Tryz.func40,Tryz.ntmps40
 go_wp2_with fail
 generalize w.alloc (.cells #[.int .i64 h,.int .i64 lo,.int .i64 hi] 97)=Wa at *
 have HBA:=Lib.hid hbe
 generalize hCC:w.heap.size=C at hC ⊢
 have hc0:Wa.cell? ⟨C,0,none⟩=some (.int .i64 h):=by rw [cell_of_row _ _ _ _ _ _ hC];rfl
 have i1:=HX.out.c1;have i2:=HX.out.c2;have i3:=HX.out.c3
 have hs3:=HX.out.rsrc
 refine(has_any h 1 _ rfl C _ hc0 (by omega) (by omega)).mono ?_
 rintro e w' ⟨rfl,rfl⟩
 have HD1:Hid (hasB h 1=hasB h 1):=Lib.hid rfl
 generalize hq1:hasB h 1=q1 at *
 have HQ1:=Lib.hid hq1;clear hq1
 go_upto_if 12 with(fail)
 go_cut [] (fun wx=>Hid (dstB u.lits.length x h=true)/\Below Wa.heap.size Wa wx)
 case first=>
  cases q1 with
  |true=>
   cases hd2:decide (x.dst.kind=3)with
   |true=>
    have E:Hid (fieldsB u.lits.length x h lo hi=false):=Lib.hid (by unfold fieldsB dstB;rw [HQ1.out,hd2];rfl)
    have hk:(x.dst.kind==3)=true:=by rw [of_decide_eq_true hd2];rfl
    clear hd2
    go_wp2_with fail
    go_ret
    exact⟨retb E.out.symm,hbe⟩
   |false=>
    have hk:(x.dst.kind==3)=false:=by rw [beq_eq_false_iff_ne];exact of_decide_eq_false hd2
    have hop:=operand_any B u lo' fo go' co' lc fc gc' cc' x.dst _ HU.out hl ⟨HX.out.rdk,HX.out.rdn⟩
    cases hq:opdB u.lits.length x.dst with
    |false=>
     have E:Hid (fieldsB u.lits.length x h lo hi=false):=Lib.hid (by unfold fieldsB dstB;rw [HQ1.out,hd2,hq];rfl)
     rw [hq]at hop
     clear hd2 hq
     go_wp2_with fail
     refine hop.mono ?_
     rintro e w5 ⟨rfl,hb5⟩
     go_wp2_with fail
     go_ret
     exact⟨retb E.out.symm,hbe.trans (hb5.mono hbe.size)⟩
    |true=>
     have HDST:Hid (dstB u.lits.length x h=true):=Lib.hid (by unfold dstB;rw [HQ1.out,hd2,hq];rfl)
     rw [hq]at hop
     clear hd2 hq
     go_wp2_with fail
     refine hop.mono ?_
     rintro e w5 ⟨rfl,hB0⟩
     go_wp2_with fail
     go_meet
     case rel=>exact⟨HDST,hB0⟩
  |false=>
   by_cases z1:x.dst.kind=0
   ·have y1:(x.dst.kind==0)=true:=by rw [z1];rfl
    by_cases z2:x.dst.n=0
    ·have y2:(x.dst.n==0)=true:=by rw [z2];rfl
     have HDST:Hid (dstB u.lits.length x h=true):=Lib.hid (by unfold dstB;rw [HQ1.out,decide_eq_true z1,decide_eq_true z2];rfl)
     clear z1 z2
     go_wp2_with fail
     go_meet
     case rel=>exact⟨HDST,Below.refl _ _⟩
    ·have y2:(x.dst.n==0)=false:=beq_eq_false_iff_ne.2 z2
     have E:Hid (fieldsB u.lits.length x h lo hi=false):=Lib.hid (by unfold fieldsB dstB;rw [HQ1.out,decide_eq_true z1,decide_eq_false z2];rfl)
     clear z1 z2
     go_wp2_with fail
     go_ret
     exact⟨retb E.out.symm,hbe⟩
   ·have y1:(x.dst.kind==0)=false:=beq_eq_false_iff_ne.2 z1
    have E:Hid (fieldsB u.lits.length x h lo hi=false):=Lib.hid (by unfold fieldsB dstB;rw [HQ1.out,decide_eq_false z1];rfl)
    clear z1
    go_wp2_with fail
    go_ret
    exact⟨retb E.out.symm,hbe⟩
 case rest=>
  obtain⟨HDST,hB0⟩:=hcut
  rename_i w5
  have i3:=(HX.out.below hB0).c3
  go_wp2_with fail
  go_loopw [39] (fun iv wr=> ∃k:Nat,k<=x.src.length/\iv= .int .i64 k/\Hid (∀j (h:j<x.src.length),j<k->opdB u.lits.length x.src[j]=true)/\Below Wa.heap.size Wa wr) (fun iv _=>x.src.length-(intOf iv).toNat)
  case atStart=>exact⟨0,Nat.zero_le _,rfl,Lib.hid (fun j _ h=>absurd h (Nat.not_lt_zero _)),hB0⟩
  case round=>
   obtain⟨k,hk,rfl,HK,hB⟩:=hrel
   rename World=>wr
   have ib:=HX.out.below hB
   have ub:=HU.out.below hB
   by_cases hlt:k<x.src.length
   ·obtain⟨b2,off,hao,hb2,q0,q1,r0,r1⟩:=ib.src.arg hlt
    subst hao
    have HE:Hid (opdB u.lits.length x.src[k]=false->fieldsB u.lits.length x h lo hi=false):=Lib.hid (fun hf=>by
     unfold fieldsB
     have:x.src.all (opdB u.lits.length)=false:=by
      rw [List.all_eq_false];exact⟨x.src[k],List.getElem_mem hlt,by rw [hf];decide⟩
     rw [this];simp)
    have HN:Hid (opdB u.lits.length x.src[k]=true-> ∀j (h:j<x.src.length),j<k+1->opdB u.lits.length x.src[j]=true):=Lib.hid (fun hne j h hj=>by
     rcases Nat.eq_or_lt_of_le (Nat.le_of_lt_succ hj)with e|e
     ·subst e;exact hne
     ·exact HK.out j h e)
    generalize x.src[k]=a at *
    have hba:=(Below.refl wr.heap.size wr).alloc (Nat.le_refl _) (.cells #[.int .i64 a.kind,.int .i64 a.n] 42)
    have hop:=operand_any B u lo' fo go' co' lc fc gc' cc' a _ (ub.below hba) hl ⟨r0,r1⟩
    clear ib ub
    cases hq:opdB u.lits.length a with
    |false=>
     have E:=Lib.hid (HE.out hq)
     rw [hq]at hop
     clear hq
     go_wp2_with fail
     refine hop.mono ?_
     rintro e w5 ⟨rfl,hb5⟩
     go_wp2_with fail
     go_ret
     exact⟨retb E.out.symm,HBA.out.trans ((hB.trans ((hba.trans (hb5.mono (by simp))).mono hB.size)).mono HBA.out.size)⟩
    |true=>
     have HN2:=Lib.hid (HN.out hq)
     rw [hq]at hop
     clear hq
     go_wp2_with fail
     refine hop.mono ?_
     rintro e w5 ⟨rfl,hb5⟩
     go_wp2_with fail
     go_roundw
     case rel=>exact⟨k+1,by omega,by go_num,HN2,hB.trans ((hba.trans (hb5.mono (by simp))).mono hB.size)⟩
     case measure=>simp [intOf];omega
   ·have HALL:Hid (x.src.all (opdB u.lits.length)=true):=Lib.hid (by
     rw [List.all_eq_true]
     intro a ha
     obtain⟨j,hj,rfl⟩:=List.getElem_of_mem ha
     exact HK.out j hj (by omega))
    have hC2:=(hB.block C (lt_of_row hC)).trans hC
    have hcW:wr.cell? ⟨C,0,none⟩=some (.int .i64 h):=by rw [cell_of_row _ _ _ _ _ _ hC2];rfl
    have hcL:wr.cell? ⟨C,1,none⟩=some (.int .i64 lo):=by rw [cell_of_row _ _ _ _ _ _ hC2];rfl
    have hcH:wr.cell? ⟨C,2,none⟩=some (.int .i64 hi):=by rw [cell_of_row _ _ _ _ _ _ hC2];rfl
    have d3:=ib.c3;have d4:=ib.c4;have d5:=ib.c5;have d6:=ib.c6;have d7:=ib.c7;have d8:=ib.c8;have d9:=ib.c9
    have hsrc:=ib.rsrc
    clear ib ub hC2
    have HF:Hid (fieldsB u.lits.length x h lo hi=(wi x.src.length lo hi&&(wi x.live 0 256&&((hasB h 4||x.n==0)&&((hasB h 8||x.name.toList.isEmpty)&&((hasB h 64||x.to==0)&&((hasB h 128||x.live==0)&&((hasB h 16||x.cases.length==0)&&(hasB h 32||x.segs.length==0))))))))):=Lib.hid (by
     unfold fieldsB;rw [HDST.out,HALL.out];rfl)
    have hBZ:=HBA.out.trans (hB.mono HBA.out.size)
    cases hw1:wi x.src.length lo hi with
    |false=>
     have E:Hid (fieldsB u.lits.length x h lo hi=false):=Lib.hid (by rw [HF.out,hw1];rfl)
     go_wp2_with fail
     go_quiet ((go_at_call 71;exact Calls.quiet_of_same ((within_any _ _ _ _).mono fun _ _ ⟨a,b⟩=>⟨a,b.symm⟩)))
     go_wp2_with fail
     go_ret
     exact⟨retb E.out.symm,below_drewN hBZ _⟩
    |true=>
     go_wp2_with fail
     go_quiet ((go_at_call 71;exact Calls.quiet_of_same ((within_any _ _ _ _).mono fun _ _ ⟨a,b⟩=>⟨a,b.symm⟩)))
     have HBQ:=Lib.hid hBZ
     cases hw2:wi x.live 0 256 with
     |false=>
      have E:Hid (fieldsB u.lits.length x h lo hi=false):=Lib.hid (by rw [HF.out,hw1,hw2];rfl)
      go_wp2_with (go_at_call 71;refine(within_any _ _ _ _).mono ?_;rintro e w1 ⟨rfl,rfl⟩)
      go_ret
      exact⟨retb E.out.symm,below_drewN hBZ _⟩
     |true=>
      have HF2:Hid (fieldsB u.lits.length x h lo hi=((hasB h 4||x.n==0)&&((hasB h 8||x.name.toList.isEmpty)&&((hasB h 64||x.to==0)&&((hasB h 128||x.live==0)&&((hasB h 16||x.cases.length==0)&&(hasB h 32||x.segs.length==0))))))):=Lib.hid (by rw [HF.out,hw1,hw2];rfl)
      clear HF
      have HQ0:=Lib.hid hcW
      go_upto_region 16 with(go_at_call 71;refine(within_any _ _ _ _).mono ?_;rintro e w1 ⟨rfl,rfl⟩)
      have hBW:=below_drewN hBZ nq
      have d3':=Lib.hid d3
      have d4':=Lib.hid d4
      have d5':=Lib.hid d5
      have d6':=Lib.hid d6
      have d7':=Lib.hid d7
      have d8':=Lib.hid d8
      have d9':=Lib.hid d9
      clear d3 d4 d5 d6 d7 d8 d9 hcW hcL hcH
      generalize hWQ:wr.drewN nq=Wq at *
      have hcW:Wq.cell? ⟨C,0,none⟩=some (.int .i64 h):=by rw [<-hWQ];exact HQ0.out
      have d4:=d4'.out
      rw [show wr.cell?=Wq.cell? from by rw [<-hWQ];rfl]at d4
      have d5:=d5'.out
      rw [show wr.cell?=Wq.cell? from by rw [<-hWQ];rfl]at d5
      have d6:=d6'.out
      rw [show wr.cell?=Wq.cell? from by rw [<-hWQ];rfl]at d6
      have d7:=d7'.out
      rw [show wr.cell?=Wq.cell? from by rw [<-hWQ];rfl]at d7
      have d8:=d8'.out
      rw [show wr.cell?=Wq.cell? from by rw [<-hWQ];rfl]at d8
      have d9:=d9'.out
      rw [show wr.cell?=Wq.cell? from by rw [<-hWQ];rfl]at d9
      clear hWQ
      have HG0:Hid (fieldsB u.lits.length x h lo hi=((hasB h 4||x.n==0)&&((hasB h 8||x.name.toList.isEmpty)&&((hasB h 64||x.to==0)&&((hasB h 128||x.live==0)&&((hasB h 16||x.cases.length==0)&&(hasB h 32||x.segs.length==0))))))):=Lib.hid (by rw [HF2.out])
      have hh:=fun wx (hc:wx.cell? ⟨C,0,none⟩=some (.int .i64 h))=>has_any h 4 4 rfl C wx hc (by omega) (by omega)
      go_cut [66] (fun sv wx=> ∃v:Bool,sv= .bool v/\Hid ((hasB h 4||x.n==0)= !v)/\Wq=wx)
      case first=>
       go_wp2_with fail
       refine(hh _ hcW).mono ?_
       rintro e w1 ⟨rfl,rfl⟩
       cases hq4:hasB h 4
       ·go_wp2_with fail
        go_meet
        case rel=>exact⟨_,rfl,Lib.hid (by rw [hq4];first|rfl|(simp;done)|(simp [bne];done)|(rw [Bool.eq_iff_iff];simp;done)|(rw [Bool.eq_iff_iff];simp;omega)),rfl⟩
       ·go_wp2_with fail
        go_meet
        case rel=>exact⟨_,rfl,Lib.hid (by rw [hq4];first|rfl|(simp;done)|(simp [bne];done)|(rw [Bool.eq_iff_iff];simp;done)|(rw [Bool.eq_iff_iff];simp;omega)),rfl⟩
      case rest=>
       obtain⟨v,rfl,HV00,rfl⟩:=hcut
       clear hh
       cases v with
       |true=>
        have E:Hid (fieldsB u.lits.length x h lo hi=false):=Lib.hid (by rw [HG0.out,HV00.out];rfl)
        go_wp2_with fail
        go_ret
        exact⟨retb E.out.symm,hBW⟩
       |false=>
        have HV0:Hid ((hasB h 4||x.n==0)=true):=Lib.hid (by rw [HV00.out];rfl)
        go_upto_region 17 with fail
        have HG1:Hid (fieldsB u.lits.length x h lo hi=((hasB h 8||x.name.toList.isEmpty)&&((hasB h 64||x.to==0)&&((hasB h 128||x.live==0)&&((hasB h 16||x.cases.length==0)&&(hasB h 32||x.segs.length==0)))))):=Lib.hid (by rw [HG0.out,HV0.out,Bool.true_and])
        have hh:=fun wx (hc:wx.cell? ⟨C,0,none⟩=some (.int .i64 h))=>has_any h 8 8 rfl C wx hc (by omega) (by omega)
        go_cut [66] (fun sv wx=> ∃v:Bool,sv= .bool v/\Hid ((hasB h 8||x.name.toList.isEmpty)= !v)/\Wq=wx)
        case first=>
         go_wp2_with fail
         refine(hh _ hcW).mono ?_
         rintro e w1 ⟨rfl,rfl⟩
         cases hq4:hasB h 8
         ·go_wp2_with fail
          go_meet
          case rel=>exact⟨_,rfl,Lib.hid (by rw [hq4];first|rfl|(simp;done)|(simp [bne];done)|(rw [Bool.eq_iff_iff];simp;done)|(rw [Bool.eq_iff_iff];simp;omega)),rfl⟩
         ·go_wp2_with fail
          go_meet
          case rel=>exact⟨_,rfl,Lib.hid (by rw [hq4];first|rfl|(simp;done)|(simp [bne];done)|(rw [Bool.eq_iff_iff];simp;done)|(rw [Bool.eq_iff_iff];simp;omega)),rfl⟩
        case rest=>
         obtain⟨v,rfl,HV10,rfl⟩:=hcut
         clear hh
         cases v with
         |true=>
          have E:Hid (fieldsB u.lits.length x h lo hi=false):=Lib.hid (by rw [HG1.out,HV10.out];rfl)
          go_wp2_with fail
          go_ret
          exact⟨retb E.out.symm,hBW⟩
         |false=>
          have HV1:Hid ((hasB h 8||x.name.toList.isEmpty)=true):=Lib.hid (by rw [HV10.out];rfl)
          go_upto_region 18 with fail
          have HG2:Hid (fieldsB u.lits.length x h lo hi=((hasB h 64||x.to==0)&&((hasB h 128||x.live==0)&&((hasB h 16||x.cases.length==0)&&(hasB h 32||x.segs.length==0))))):=Lib.hid (by rw [HG1.out,HV1.out,Bool.true_and])
          have hh:=fun wx (hc:wx.cell? ⟨C,0,none⟩=some (.int .i64 h))=>has_any h 64 64 rfl C wx hc (by omega) (by omega)
          go_cut [66] (fun sv wx=> ∃v:Bool,sv= .bool v/\Hid ((hasB h 64||x.to==0)= !v)/\Wq=wx)
          case first=>
           go_wp2_with fail
           refine(hh _ hcW).mono ?_
           rintro e w1 ⟨rfl,rfl⟩
           cases hq4:hasB h 64
           ·go_wp2_with fail
            go_meet
            case rel=>exact⟨_,rfl,Lib.hid (by rw [hq4];first|rfl|(simp;done)|(simp [bne];done)|(rw [Bool.eq_iff_iff];simp;done)|(rw [Bool.eq_iff_iff];simp;omega)),rfl⟩
           ·go_wp2_with fail
            go_meet
            case rel=>exact⟨_,rfl,Lib.hid (by rw [hq4];first|rfl|(simp;done)|(simp [bne];done)|(rw [Bool.eq_iff_iff];simp;done)|(rw [Bool.eq_iff_iff];simp;omega)),rfl⟩
          case rest=>
           obtain⟨v,rfl,HV20,rfl⟩:=hcut
           clear hh
           cases v with
           |true=>
            have E:Hid (fieldsB u.lits.length x h lo hi=false):=Lib.hid (by rw [HG2.out,HV20.out];rfl)
            go_wp2_with fail
            go_ret
            exact⟨retb E.out.symm,hBW⟩
           |false=>
            have HV2:Hid ((hasB h 64||x.to==0)=true):=Lib.hid (by rw [HV20.out];rfl)
            go_upto_region 19 with fail
            have HG3:Hid (fieldsB u.lits.length x h lo hi=((hasB h 128||x.live==0)&&((hasB h 16||x.cases.length==0)&&(hasB h 32||x.segs.length==0)))):=Lib.hid (by rw [HG2.out,HV2.out,Bool.true_and])
            have hh:=fun wx (hc:wx.cell? ⟨C,0,none⟩=some (.int .i64 h))=>has_any h 128 128 rfl C wx hc (by omega) (by omega)
            go_cut [66] (fun sv wx=> ∃v:Bool,sv= .bool v/\Hid ((hasB h 128||x.live==0)= !v)/\Wq=wx)
            case first=>
             go_wp2_with fail
             refine(hh _ hcW).mono ?_
             rintro e w1 ⟨rfl,rfl⟩
             cases hq4:hasB h 128
             ·go_wp2_with fail
              go_meet
              case rel=>exact⟨_,rfl,Lib.hid (by rw [hq4];first|rfl|(simp;done)|(simp [bne];done)|(rw [Bool.eq_iff_iff];simp;done)|(rw [Bool.eq_iff_iff];simp;omega)),rfl⟩
             ·go_wp2_with fail
              go_meet
              case rel=>exact⟨_,rfl,Lib.hid (by rw [hq4];first|rfl|(simp;done)|(simp [bne];done)|(rw [Bool.eq_iff_iff];simp;done)|(rw [Bool.eq_iff_iff];simp;omega)),rfl⟩
            case rest=>
             obtain⟨v,rfl,HV30,rfl⟩:=hcut
             clear hh
             cases v with
             |true=>
              have E:Hid (fieldsB u.lits.length x h lo hi=false):=Lib.hid (by rw [HG3.out,HV30.out];rfl)
              go_wp2_with fail
              go_ret
              exact⟨retb E.out.symm,hBW⟩
             |false=>
              have HV3:Hid ((hasB h 128||x.live==0)=true):=Lib.hid (by rw [HV30.out];rfl)
              go_upto_region 21 with fail
              have HG4:Hid (fieldsB u.lits.length x h lo hi=((hasB h 16||x.cases.length==0)&&(hasB h 32||x.segs.length==0))):=Lib.hid (by rw [HG3.out,HV3.out,Bool.true_and])
              have hh:=fun wx (hc:wx.cell? ⟨C,0,none⟩=some (.int .i64 h))=>has_any h 16 16 rfl C wx hc (by omega) (by omega)
              go_cut [107] (fun sv wx=> ∃v:Bool,sv= .bool v/\Hid ((hasB h 16||x.cases.length==0)= !v)/\Wq=wx)
              case first=>
               go_wp2_with fail
               refine(hh _ hcW).mono ?_
               rintro e w1 ⟨rfl,rfl⟩
               cases hq4:hasB h 16
               ·go_wp2_with fail
                go_meet
                case rel=>exact⟨_,rfl,Lib.hid (by rw [hq4];first|rfl|(simp;done)|(simp [bne];done)|(rw [Bool.eq_iff_iff];simp;done)|(rw [Bool.eq_iff_iff];simp;omega)),rfl⟩
               ·go_wp2_with fail
                go_meet
                case rel=>exact⟨_,rfl,Lib.hid (by rw [hq4];first|rfl|(simp;done)|(simp [bne];done)|(rw [Bool.eq_iff_iff];simp;done)|(rw [Bool.eq_iff_iff];simp;omega)),rfl⟩
              case rest=>
               obtain⟨v,rfl,HV40,rfl⟩:=hcut
               clear hh
               cases v with
               |true=>
                have E:Hid (fieldsB u.lits.length x h lo hi=false):=Lib.hid (by rw [HG4.out,HV40.out];rfl)
                go_wp2_with fail
                go_ret
                exact⟨retb E.out.symm,hBW⟩
               |false=>
                have HV4:Hid ((hasB h 16||x.cases.length==0)=true):=Lib.hid (by rw [HV40.out];rfl)
                go_upto_region 22 with fail
                have HG5:Hid (fieldsB u.lits.length x h lo hi=(hasB h 32||x.segs.length==0)):=Lib.hid (by rw [HG4.out,HV4.out,Bool.true_and])
                have hh:=fun wx (hc:wx.cell? ⟨C,0,none⟩=some (.int .i64 h))=>has_any h 32 32 rfl C wx hc (by omega) (by omega)
                go_cut [107] (fun sv wx=> ∃v:Bool,sv= .bool v/\Hid ((hasB h 32||x.segs.length==0)= !v)/\Wq=wx)
                case first=>
                 go_wp2_with fail
                 refine(hh _ hcW).mono ?_
                 rintro e w1 ⟨rfl,rfl⟩
                 cases hq4:hasB h 32
                 ·go_wp2_with fail
                  go_meet
                  case rel=>exact⟨_,rfl,Lib.hid (by rw [hq4];first|rfl|(simp;done)|(simp [bne];done)|(rw [Bool.eq_iff_iff];simp;done)|(rw [Bool.eq_iff_iff];simp;omega)),rfl⟩
                 ·go_wp2_with fail
                  go_meet
                  case rel=>exact⟨_,rfl,Lib.hid (by rw [hq4];first|rfl|(simp;done)|(simp [bne];done)|(rw [Bool.eq_iff_iff];simp;done)|(rw [Bool.eq_iff_iff];simp;omega)),rfl⟩
                case rest=>
                 obtain⟨v,rfl,HV50,rfl⟩:=hcut
                 clear hh
                 cases v with
                 |true=>
                  have E:Hid (fieldsB u.lits.length x h lo hi=false):=Lib.hid (by rw [HG5.out,HV50.out];rfl)
                  go_wp2_with fail
                  go_ret
                  exact⟨retb E.out.symm,hBW⟩
                 |false=>
                  have HV5:Hid ((hasB h 32||x.segs.length==0)=true):=Lib.hid (by rw [HV50.out];rfl)
                  have E:Hid (fieldsB u.lits.length x h lo hi=true):=Lib.hid (by rw [HG5.out,HV5.out])
                  go_wp2_with fail
                  go_ret
                  exact⟨retb E.out.symm,hBW⟩
open Go.RowKit Go.Maps Go.WideMaps
theorem sigLaid:laidOutB Tryz.prog=true:=by kernel_rfl
theorem sigLaw:Keyed Tryz.prog 108:=Keyed.of_law (deep_law_laid sigLaid (m:=2) (by omega) (of_decide_eq_true (by kernel_rfl)) (by kernel_rfl) (by rw [Tryz.underlying108]))
theorem zeroBool (w:World):(zeroValue 4).run Tryz.prog w= .ok (.bool false) w:=by kernel_rfl
def sigKey (s:ByteArray) (a:Int):Lit:=.string (keyBytes [.string s.data.toList,.int .i64 a])
theorem sigKeyType:Tryz.prog.keyType 108=true:=by kernel_rfl
theorem sigCells:Tryz.prog.cellsOf 108=2:=by kernel_rfl
theorem strCells1:Tryz.prog.cellsOf 9=1:=by kernel_rfl
theorem intCells1:Tryz.prog.cellsOf 3=1:=by kernel_rfl
theorem sigTypes: ∃m,Tryz.prog.types.size+1=m+1+1:=⟨Tryz.prog.types.size-1,by have:0<Tryz.prog.types.size:=of_decide_eq_true (by kernel_rfl);omega⟩
theorem keyOf_sig {s:ByteArray} {a:Int} (hs:s.size<=maxLen) (ha:I64 a):keyOf Tryz.prog 108 (.agg #[.string s,.int .i64 a])=some (sigKey s a):=by
 have hwf:(Lit.int .i64 a).wf=true:=by
  obtain⟨h1,h2⟩:=ha
  simp [Lit.wf,IntKind.min,IntKind.max,IntKind.bits,IntKind.signed];omega
 unfold keyOf sigKey
 simp only [Tryz.underlying108]
 rw [if_pos (by simp [sigKeyType,Value.formed,Tryz.underlying108,sigCells])]
 obtain⟨m,hm⟩:=sigTypes
 rw [hm]
 unfold Program.keyLits
 simp only [Tryz.underlying108,Value.cells]
 simp [Program.keyLits,Tryz.underlying9,Tryz.underlying3,strCells1,intCells1,hs,hwf]
 exact sigCells.symm
theorem sigKey_inj {s s':ByteArray} {a a':Int} (hs:s.size<=maxLen) (hs':s'.size<=maxLen) (ha:I64 a) (ha':I64 a') (h:sigKey s a=sigKey s' a'):s=s'/\a=a':=by
 have h1:=keyOf_sig hs ha
 have h2:=keyOf_sig hs' ha'
 rw [<-h]at h2
 have h3:=sigLaw.inj h1 h2
 injection h3 with h3
 have h4:=congrArg Array.toList h3
 simp at h4
 exact h4
def SigIs (w:World) (M n:Nat) (S:ByteArray->Int->Bool):Prop:= ∃D:DataW Unit,w.ownsMap Tryz.prog 108 (plainElem Tryz.prog 4) M n D/\ ∀(s:ByteArray) (a:Int),s.size<=maxLen->I64 a->D.atKey (sigKey s a) (.lit (.bool false))= .lit (.bool (S s a))
theorem SigIs.kept {w w':World} {M n:Nat} {S:ByteArray->Int->Bool} (h:SigIs w M n S) (hb:Below w.heap.size w w'):SigIs w' M n S:=by
 obtain⟨D,h1,h2⟩:=h
 exact⟨D,h1.kept (row:=none) ⟨hb.os,hb.tape,hb.output,hb.size,fun k hk _=>hb.block k hk⟩ (by simp),h2⟩
theorem SigIs.lt {w:World} {M n:Nat} {S:ByteArray->Int->Bool} (h:SigIs w M n S):M<w.heap.size:=h.elim fun _ h=>h.1.lt
theorem sig_made (w:World):SigIs (w.alloc (.map #[] 0)) w.heap.size 0 (fun _ _=>false):=⟨_,World.ownsMap_made w _ _ _,fun s a _ _=>rfl⟩
theorem plainElem_bool_inv {P:Program} {e:TypeId} (he:P.underlying e=some .bool) {v:Value} {z:DataW Unit × List MemPlace} (h:plainElem P e v=some z): ∃c,v= .bool c/\z=(.lit (.bool c),[]):=by
 unfold plainElem at h
 rw [he]at h
 cases v<;>simp at h
 exact⟨_,rfl,h.symm⟩
theorem sig_look {w:World} {M n:Nat} {S:ByteArray->Int->Bool} (h:SigIs w M n S) {s:ByteArray} {a:Int} (hs:s.size<=maxLen) (ha:I64 a):
  (Instr.lookup 147 (.map (some M)) (.agg #[.string s,.int .i64 a]) false).run Tryz.prog w= .ok (.bool (S s a)) w:=by
 obtain⟨D,h1,h2⟩:=h
 obtain⟨v,ps,hrun,hv⟩:=h1.lookup sigLaw Tryz.underlying147 (zeroBool w) (plainElem_bool Tryz.underlying4 false) (keyOf_sig hs ha)
 obtain⟨c,rfl,hc⟩:=plainElem_bool_inv Tryz.underlying4 hv
 rw [h2 s a hs ha]at hc
 have e1:(DataW.lit (.bool (S s a)):DataW Unit)= .lit (.bool c):=congrArg Prod.fst hc
 have e2:S s a=c:=by injection e1 with e1;injection e1
 rw [hrun,e2]
theorem sig_put {w w':World} {M n:Nat} {S:ByteArray->Int->Bool} {D:DataW Unit} (h1:w.ownsMap Tryz.prog 108 (plainElem Tryz.prog 4) M n D) (h2: ∀(s:ByteArray) (a:Int),s.size<=maxLen->I64 a->D.atKey (sigKey s a) (.lit (.bool false))= .lit (.bool (S s a)))
  {s:ByteArray} {a:Int} (hs:s.size<=maxLen) (ha:I64 a) (h3:w'.ownsMap Tryz.prog 108 (plainElem Tryz.prog 4) M (n+1) (D.put (sigKey s a) (.lit (.bool true)))):SigIs w' M (n+1) (fun s' a'=>(s.data.toList==s'.data.toList&&a==a')||S s' a'):=by
 refine⟨_,h3,fun s' a' hs' ha'=>?_⟩
 by_cases e:s'=s/\a'=a
 ·obtain⟨rfl,rfl⟩:=e
  rw [atKey_put_same h1.isMap (sigLaw.key (keyOf_sig hs ha))]
  simp
 ·rw [atKey_put_other (fun h=>e (sigKey_inj hs' hs ha' ha h)),h2 s' a' hs' ha']
  have:(s.data.toList==s'.data.toList&&a==a')=false:=by
   cases h:(s.data.toList==s'.data.toList&&a==a')with
   |false=>rfl
   |true=>
    rw [Bool.and_eq_true,beq_iff_eq,beq_iff_eq]at h
    exact absurd ⟨ByteArray.ext (Array.toList_inj.1 h.1.symm),h.2.symm⟩ e
  simp only [this,Bool.false_or]
def numberB (nf:Nat) (funs:List RFun) (x:RIns):Bool:=
 if x.op=4 then wi x.n 0 ((funs.length:Int)-1)&&(match funs[x.n.toNat]? with
  |some f=>decide ((x.src.length:Int)=f.free)
  |none=>false)
 else if x.op=5 then wi x.n 0 254 else if x.op=9 then wi x.n 0 255 else if x.op=16∨x.op=17 then wi x.n 0 ((nf:Int)-1)
 else if x.op=15∨x.op=18∨x.op=19∨x.op=20∨x.op=21 then wi x.n 0 16 else if x.op=24 then wi x.n 1 8192 else if x.op=31 then wi x.n 0 3
 else if x.op=32∨x.op=33 then decide (x.n=1)||decide (x.n=8)else true
theorem number_5 (B:Nat) (u:RUnit) (lo' fo go' co':Option Addr) (lc fc gc' cc':Nat) (b o:Nat) (x:RIns) (so co go:Option Addr) (sc cc gc:Nat) (w:World) (hu:UBox w B u lo' fo go' co' lc fc gc' cc') (hl:u.funcs.length<=9223372036854775807) (hl2:u.funs.length<=9223372036854775807) (hf:SlAt w 3 FunR go' u.funs) (hx:IBox w b o x so co go sc cc gc) (hop:x.op=5):
  Calls Tryz.prog 41 #[.pointer (some ⟨B,0,none⟩),.pointer (some ⟨b,o,none⟩)] w fun e w'=>e= .returned (.bool (numberB u.funcs.length u.funs x))/\Below w.heap.size w w':=by
 have c0:=hx.c0;have c3:=hx.c3;have c5:=hx.c5
 have b3:=hu.c3;have b4:=hu.c4
 have r1:=hx.rn;have r2:=hx.rsrc
 obtain⟨r1a,r1b⟩:=r1
 have HF:=Lib.hid hf
 clear hu hx hf
 have hw1:IntKind.i64.wrap ((u.funcs.length:Int)-1)=(u.funcs.length:Int)-1:=by rw [IntKind.wrap_i64];omega
 have hw2:IntKind.i64.wrap ((u.funs.length:Int)-1)=(u.funs.length:Int)-1:=by rw [IntKind.wrap_i64];omega
 have E:Hid (numberB u.funcs.length u.funs x=wi x.n 0 254):=Lib.hid (by unfold numberB;rw [hop];rfl)
 rw [hop]at c0
 clear hop
 go_enter Tryz.func41,Tryz.ntmps41
 go_wp2_with (go_at_call 71;refine(within_any _ _ _ _).mono ?_;rintro e w1 ⟨rfl,rfl⟩)
 go_ret
 exact⟨retb E.out.symm,Below.refl _ _⟩
theorem number_9 (B:Nat) (u:RUnit) (lo' fo go' co':Option Addr) (lc fc gc' cc':Nat) (b o:Nat) (x:RIns) (so co go:Option Addr) (sc cc gc:Nat) (w:World) (hu:UBox w B u lo' fo go' co' lc fc gc' cc') (hl:u.funcs.length<=9223372036854775807) (hl2:u.funs.length<=9223372036854775807) (hf:SlAt w 3 FunR go' u.funs) (hx:IBox w b o x so co go sc cc gc) (hop:x.op=9):
  Calls Tryz.prog 41 #[.pointer (some ⟨B,0,none⟩),.pointer (some ⟨b,o,none⟩)] w fun e w'=>e= .returned (.bool (numberB u.funcs.length u.funs x))/\Below w.heap.size w w':=by
 have c0:=hx.c0;have c3:=hx.c3;have c5:=hx.c5
 have b3:=hu.c3;have b4:=hu.c4
 have r1:=hx.rn;have r2:=hx.rsrc
 obtain⟨r1a,r1b⟩:=r1
 have HF:=Lib.hid hf
 clear hu hx hf
 have hw1:IntKind.i64.wrap ((u.funcs.length:Int)-1)=(u.funcs.length:Int)-1:=by rw [IntKind.wrap_i64];omega
 have hw2:IntKind.i64.wrap ((u.funs.length:Int)-1)=(u.funs.length:Int)-1:=by rw [IntKind.wrap_i64];omega
 have E:Hid (numberB u.funcs.length u.funs x=wi x.n 0 255):=Lib.hid (by unfold numberB;rw [hop];rfl)
 rw [hop]at c0
 clear hop
 go_enter Tryz.func41,Tryz.ntmps41
 go_wp2_with (go_at_call 71;refine(within_any _ _ _ _).mono ?_;rintro e w1 ⟨rfl,rfl⟩)
 go_ret
 exact⟨retb E.out.symm,Below.refl _ _⟩
theorem number_15 (B:Nat) (u:RUnit) (lo' fo go' co':Option Addr) (lc fc gc' cc':Nat) (b o:Nat) (x:RIns) (so co go:Option Addr) (sc cc gc:Nat) (w:World) (hu:UBox w B u lo' fo go' co' lc fc gc' cc') (hl:u.funcs.length<=9223372036854775807) (hl2:u.funs.length<=9223372036854775807) (hf:SlAt w 3 FunR go' u.funs) (hx:IBox w b o x so co go sc cc gc) (hop:x.op=15):
  Calls Tryz.prog 41 #[.pointer (some ⟨B,0,none⟩),.pointer (some ⟨b,o,none⟩)] w fun e w'=>e= .returned (.bool (numberB u.funcs.length u.funs x))/\Below w.heap.size w w':=by
 have c0:=hx.c0;have c3:=hx.c3;have c5:=hx.c5
 have b3:=hu.c3;have b4:=hu.c4
 have r1:=hx.rn;have r2:=hx.rsrc
 obtain⟨r1a,r1b⟩:=r1
 have HF:=Lib.hid hf
 clear hu hx hf
 have hw1:IntKind.i64.wrap ((u.funcs.length:Int)-1)=(u.funcs.length:Int)-1:=by rw [IntKind.wrap_i64];omega
 have hw2:IntKind.i64.wrap ((u.funs.length:Int)-1)=(u.funs.length:Int)-1:=by rw [IntKind.wrap_i64];omega
 have E:Hid (numberB u.funcs.length u.funs x=wi x.n 0 16):=Lib.hid (by unfold numberB;rw [hop];rfl)
 rw [hop]at c0
 clear hop
 go_enter Tryz.func41,Tryz.ntmps41
 go_wp2_with (go_at_call 71;refine(within_any _ _ _ _).mono ?_;rintro e w1 ⟨rfl,rfl⟩)
 go_ret
 exact⟨retb E.out.symm,Below.refl _ _⟩
theorem number_18 (B:Nat) (u:RUnit) (lo' fo go' co':Option Addr) (lc fc gc' cc':Nat) (b o:Nat) (x:RIns) (so co go:Option Addr) (sc cc gc:Nat) (w:World) (hu:UBox w B u lo' fo go' co' lc fc gc' cc') (hl:u.funcs.length<=9223372036854775807) (hl2:u.funs.length<=9223372036854775807) (hf:SlAt w 3 FunR go' u.funs) (hx:IBox w b o x so co go sc cc gc) (hop:x.op=18):
  Calls Tryz.prog 41 #[.pointer (some ⟨B,0,none⟩),.pointer (some ⟨b,o,none⟩)] w fun e w'=>e= .returned (.bool (numberB u.funcs.length u.funs x))/\Below w.heap.size w w':=by
 have c0:=hx.c0;have c3:=hx.c3;have c5:=hx.c5
 have b3:=hu.c3;have b4:=hu.c4
 have r1:=hx.rn;have r2:=hx.rsrc
 obtain⟨r1a,r1b⟩:=r1
 have HF:=Lib.hid hf
 clear hu hx hf
 have hw1:IntKind.i64.wrap ((u.funcs.length:Int)-1)=(u.funcs.length:Int)-1:=by rw [IntKind.wrap_i64];omega
 have hw2:IntKind.i64.wrap ((u.funs.length:Int)-1)=(u.funs.length:Int)-1:=by rw [IntKind.wrap_i64];omega
 have E:Hid (numberB u.funcs.length u.funs x=wi x.n 0 16):=Lib.hid (by unfold numberB;rw [hop];rfl)
 rw [hop]at c0
 clear hop
 go_enter Tryz.func41,Tryz.ntmps41
 go_wp2_with (go_at_call 71;refine(within_any _ _ _ _).mono ?_;rintro e w1 ⟨rfl,rfl⟩)
 go_ret
 exact⟨retb E.out.symm,Below.refl _ _⟩
theorem number_19 (B:Nat) (u:RUnit) (lo' fo go' co':Option Addr) (lc fc gc' cc':Nat) (b o:Nat) (x:RIns) (so co go:Option Addr) (sc cc gc:Nat) (w:World) (hu:UBox w B u lo' fo go' co' lc fc gc' cc') (hl:u.funcs.length<=9223372036854775807) (hl2:u.funs.length<=9223372036854775807) (hf:SlAt w 3 FunR go' u.funs) (hx:IBox w b o x so co go sc cc gc) (hop:x.op=19):
  Calls Tryz.prog 41 #[.pointer (some ⟨B,0,none⟩),.pointer (some ⟨b,o,none⟩)] w fun e w'=>e= .returned (.bool (numberB u.funcs.length u.funs x))/\Below w.heap.size w w':=by
 have c0:=hx.c0;have c3:=hx.c3;have c5:=hx.c5
 have b3:=hu.c3;have b4:=hu.c4
 have r1:=hx.rn;have r2:=hx.rsrc
 obtain⟨r1a,r1b⟩:=r1
 have HF:=Lib.hid hf
 clear hu hx hf
 have hw1:IntKind.i64.wrap ((u.funcs.length:Int)-1)=(u.funcs.length:Int)-1:=by rw [IntKind.wrap_i64];omega
 have hw2:IntKind.i64.wrap ((u.funs.length:Int)-1)=(u.funs.length:Int)-1:=by rw [IntKind.wrap_i64];omega
 have E:Hid (numberB u.funcs.length u.funs x=wi x.n 0 16):=Lib.hid (by unfold numberB;rw [hop];rfl)
 rw [hop]at c0
 clear hop
 go_enter Tryz.func41,Tryz.ntmps41
 go_wp2_with (go_at_call 71;refine(within_any _ _ _ _).mono ?_;rintro e w1 ⟨rfl,rfl⟩)
 go_ret
 exact⟨retb E.out.symm,Below.refl _ _⟩
theorem number_20 (B:Nat) (u:RUnit) (lo' fo go' co':Option Addr) (lc fc gc' cc':Nat) (b o:Nat) (x:RIns) (so co go:Option Addr) (sc cc gc:Nat) (w:World) (hu:UBox w B u lo' fo go' co' lc fc gc' cc') (hl:u.funcs.length<=9223372036854775807) (hl2:u.funs.length<=9223372036854775807) (hf:SlAt w 3 FunR go' u.funs) (hx:IBox w b o x so co go sc cc gc) (hop:x.op=20):
  Calls Tryz.prog 41 #[.pointer (some ⟨B,0,none⟩),.pointer (some ⟨b,o,none⟩)] w fun e w'=>e= .returned (.bool (numberB u.funcs.length u.funs x))/\Below w.heap.size w w':=by
 have c0:=hx.c0;have c3:=hx.c3;have c5:=hx.c5
 have b3:=hu.c3;have b4:=hu.c4
 have r1:=hx.rn;have r2:=hx.rsrc
 obtain⟨r1a,r1b⟩:=r1
 have HF:=Lib.hid hf
 clear hu hx hf
 have hw1:IntKind.i64.wrap ((u.funcs.length:Int)-1)=(u.funcs.length:Int)-1:=by rw [IntKind.wrap_i64];omega
 have hw2:IntKind.i64.wrap ((u.funs.length:Int)-1)=(u.funs.length:Int)-1:=by rw [IntKind.wrap_i64];omega
 have E:Hid (numberB u.funcs.length u.funs x=wi x.n 0 16):=Lib.hid (by unfold numberB;rw [hop];rfl)
 rw [hop]at c0
 clear hop
 go_enter Tryz.func41,Tryz.ntmps41
 go_wp2_with (go_at_call 71;refine(within_any _ _ _ _).mono ?_;rintro e w1 ⟨rfl,rfl⟩)
 go_ret
 exact⟨retb E.out.symm,Below.refl _ _⟩
theorem number_21 (B:Nat) (u:RUnit) (lo' fo go' co':Option Addr) (lc fc gc' cc':Nat) (b o:Nat) (x:RIns) (so co go:Option Addr) (sc cc gc:Nat) (w:World) (hu:UBox w B u lo' fo go' co' lc fc gc' cc') (hl:u.funcs.length<=9223372036854775807) (hl2:u.funs.length<=9223372036854775807) (hf:SlAt w 3 FunR go' u.funs) (hx:IBox w b o x so co go sc cc gc) (hop:x.op=21):
  Calls Tryz.prog 41 #[.pointer (some ⟨B,0,none⟩),.pointer (some ⟨b,o,none⟩)] w fun e w'=>e= .returned (.bool (numberB u.funcs.length u.funs x))/\Below w.heap.size w w':=by
 have c0:=hx.c0;have c3:=hx.c3;have c5:=hx.c5
 have b3:=hu.c3;have b4:=hu.c4
 have r1:=hx.rn;have r2:=hx.rsrc
 obtain⟨r1a,r1b⟩:=r1
 have HF:=Lib.hid hf
 clear hu hx hf
 have hw1:IntKind.i64.wrap ((u.funcs.length:Int)-1)=(u.funcs.length:Int)-1:=by rw [IntKind.wrap_i64];omega
 have hw2:IntKind.i64.wrap ((u.funs.length:Int)-1)=(u.funs.length:Int)-1:=by rw [IntKind.wrap_i64];omega
 have E:Hid (numberB u.funcs.length u.funs x=wi x.n 0 16):=Lib.hid (by unfold numberB;rw [hop];rfl)
 rw [hop]at c0
 clear hop
 go_enter Tryz.func41,Tryz.ntmps41
 go_wp2_with (go_at_call 71;refine(within_any _ _ _ _).mono ?_;rintro e w1 ⟨rfl,rfl⟩)
 go_ret
 exact⟨retb E.out.symm,Below.refl _ _⟩
theorem number_24 (B:Nat) (u:RUnit) (lo' fo go' co':Option Addr) (lc fc gc' cc':Nat) (b o:Nat) (x:RIns) (so co go:Option Addr) (sc cc gc:Nat) (w:World) (hu:UBox w B u lo' fo go' co' lc fc gc' cc') (hl:u.funcs.length<=9223372036854775807) (hl2:u.funs.length<=9223372036854775807) (hf:SlAt w 3 FunR go' u.funs) (hx:IBox w b o x so co go sc cc gc) (hop:x.op=24):
  Calls Tryz.prog 41 #[.pointer (some ⟨B,0,none⟩),.pointer (some ⟨b,o,none⟩)] w fun e w'=>e= .returned (.bool (numberB u.funcs.length u.funs x))/\Below w.heap.size w w':=by
 have c0:=hx.c0;have c3:=hx.c3;have c5:=hx.c5
 have b3:=hu.c3;have b4:=hu.c4
 have r1:=hx.rn;have r2:=hx.rsrc
 obtain⟨r1a,r1b⟩:=r1
 have HF:=Lib.hid hf
 clear hu hx hf
 have hw1:IntKind.i64.wrap ((u.funcs.length:Int)-1)=(u.funcs.length:Int)-1:=by rw [IntKind.wrap_i64];omega
 have hw2:IntKind.i64.wrap ((u.funs.length:Int)-1)=(u.funs.length:Int)-1:=by rw [IntKind.wrap_i64];omega
 have E:Hid (numberB u.funcs.length u.funs x=wi x.n 1 8192):=Lib.hid (by unfold numberB;rw [hop];rfl)
 rw [hop]at c0
 clear hop
 go_enter Tryz.func41,Tryz.ntmps41
 go_wp2_with (go_at_call 71;refine(within_any _ _ _ _).mono ?_;rintro e w1 ⟨rfl,rfl⟩)
 go_ret
 exact⟨retb E.out.symm,Below.refl _ _⟩
theorem number_31 (B:Nat) (u:RUnit) (lo' fo go' co':Option Addr) (lc fc gc' cc':Nat) (b o:Nat) (x:RIns) (so co go:Option Addr) (sc cc gc:Nat) (w:World) (hu:UBox w B u lo' fo go' co' lc fc gc' cc') (hl:u.funcs.length<=9223372036854775807) (hl2:u.funs.length<=9223372036854775807) (hf:SlAt w 3 FunR go' u.funs) (hx:IBox w b o x so co go sc cc gc) (hop:x.op=31):
  Calls Tryz.prog 41 #[.pointer (some ⟨B,0,none⟩),.pointer (some ⟨b,o,none⟩)] w fun e w'=>e= .returned (.bool (numberB u.funcs.length u.funs x))/\Below w.heap.size w w':=by
 have c0:=hx.c0;have c3:=hx.c3;have c5:=hx.c5
 have b3:=hu.c3;have b4:=hu.c4
 have r1:=hx.rn;have r2:=hx.rsrc
 obtain⟨r1a,r1b⟩:=r1
 have HF:=Lib.hid hf
 clear hu hx hf
 have hw1:IntKind.i64.wrap ((u.funcs.length:Int)-1)=(u.funcs.length:Int)-1:=by rw [IntKind.wrap_i64];omega
 have hw2:IntKind.i64.wrap ((u.funs.length:Int)-1)=(u.funs.length:Int)-1:=by rw [IntKind.wrap_i64];omega
 have E:Hid (numberB u.funcs.length u.funs x=wi x.n 0 3):=Lib.hid (by unfold numberB;rw [hop];rfl)
 rw [hop]at c0
 clear hop
 go_enter Tryz.func41,Tryz.ntmps41
 go_wp2_with (go_at_call 71;refine(within_any _ _ _ _).mono ?_;rintro e w1 ⟨rfl,rfl⟩)
 go_ret
 exact⟨retb E.out.symm,Below.refl _ _⟩
theorem number_16 (B:Nat) (u:RUnit) (lo' fo go' co':Option Addr) (lc fc gc' cc':Nat) (b o:Nat) (x:RIns) (so co go:Option Addr) (sc cc gc:Nat) (w:World) (hu:UBox w B u lo' fo go' co' lc fc gc' cc') (hl:u.funcs.length<=9223372036854775807) (hl2:u.funs.length<=9223372036854775807) (hf:SlAt w 3 FunR go' u.funs) (hx:IBox w b o x so co go sc cc gc) (hop:x.op=16):
  Calls Tryz.prog 41 #[.pointer (some ⟨B,0,none⟩),.pointer (some ⟨b,o,none⟩)] w fun e w'=>e= .returned (.bool (numberB u.funcs.length u.funs x))/\Below w.heap.size w w':=by
 have c0:=hx.c0;have c3:=hx.c3;have c5:=hx.c5
 have b3:=hu.c3;have b4:=hu.c4
 have r1:=hx.rn;have r2:=hx.rsrc
 obtain⟨r1a,r1b⟩:=r1
 have HF:=Lib.hid hf
 clear hu hx hf
 have hw1:IntKind.i64.wrap ((u.funcs.length:Int)-1)=(u.funcs.length:Int)-1:=by rw [IntKind.wrap_i64];omega
 have hw2:IntKind.i64.wrap ((u.funs.length:Int)-1)=(u.funs.length:Int)-1:=by rw [IntKind.wrap_i64];omega
 have E:Hid (numberB u.funcs.length u.funs x=wi x.n 0 ((u.funcs.length:Int)-1)):=Lib.hid (by unfold numberB;rw [hop];rfl)
 rw [hop]at c0
 clear hop
 go_enter Tryz.func41,Tryz.ntmps41
 go_wp2_with fail
 go_quiet ((go_at_call 71;exact Calls.quiet_of_same ((within_any _ _ _ _).mono fun _ _ ⟨a,b⟩=>⟨a,b.symm⟩)))
 go_wp2_with fail
 go_ret
 exact⟨retb E.out.symm,below_drewN (Below.refl _ _) _⟩
theorem number_17 (B:Nat) (u:RUnit) (lo' fo go' co':Option Addr) (lc fc gc' cc':Nat) (b o:Nat) (x:RIns) (so co go:Option Addr) (sc cc gc:Nat) (w:World) (hu:UBox w B u lo' fo go' co' lc fc gc' cc') (hl:u.funcs.length<=9223372036854775807) (hl2:u.funs.length<=9223372036854775807) (hf:SlAt w 3 FunR go' u.funs) (hx:IBox w b o x so co go sc cc gc) (hop:x.op=17):
  Calls Tryz.prog 41 #[.pointer (some ⟨B,0,none⟩),.pointer (some ⟨b,o,none⟩)] w fun e w'=>e= .returned (.bool (numberB u.funcs.length u.funs x))/\Below w.heap.size w w':=by
 have c0:=hx.c0;have c3:=hx.c3;have c5:=hx.c5
 have b3:=hu.c3;have b4:=hu.c4
 have r1:=hx.rn;have r2:=hx.rsrc
 obtain⟨r1a,r1b⟩:=r1
 have HF:=Lib.hid hf
 clear hu hx hf
 have hw1:IntKind.i64.wrap ((u.funcs.length:Int)-1)=(u.funcs.length:Int)-1:=by rw [IntKind.wrap_i64];omega
 have hw2:IntKind.i64.wrap ((u.funs.length:Int)-1)=(u.funs.length:Int)-1:=by rw [IntKind.wrap_i64];omega
 have E:Hid (numberB u.funcs.length u.funs x=wi x.n 0 ((u.funcs.length:Int)-1)):=Lib.hid (by unfold numberB;rw [hop];rfl)
 rw [hop]at c0
 clear hop
 go_enter Tryz.func41,Tryz.ntmps41
 go_wp2_with fail
 go_quiet ((go_at_call 71;exact Calls.quiet_of_same ((within_any _ _ _ _).mono fun _ _ ⟨a,b⟩=>⟨a,b.symm⟩)))
 go_wp2_with fail
 go_ret
 exact⟨retb E.out.symm,below_drewN (Below.refl _ _) _⟩
theorem number_32 (B:Nat) (u:RUnit) (lo' fo go' co':Option Addr) (lc fc gc' cc':Nat) (b o:Nat) (x:RIns) (so co go:Option Addr) (sc cc gc:Nat) (w:World) (hu:UBox w B u lo' fo go' co' lc fc gc' cc') (hl:u.funcs.length<=9223372036854775807) (hl2:u.funs.length<=9223372036854775807) (hf:SlAt w 3 FunR go' u.funs) (hx:IBox w b o x so co go sc cc gc) (hop:x.op=32):
  Calls Tryz.prog 41 #[.pointer (some ⟨B,0,none⟩),.pointer (some ⟨b,o,none⟩)] w fun e w'=>e= .returned (.bool (numberB u.funcs.length u.funs x))/\Below w.heap.size w w':=by
 have c0:=hx.c0;have c3:=hx.c3;have c5:=hx.c5
 have b3:=hu.c3;have b4:=hu.c4
 have r1:=hx.rn;have r2:=hx.rsrc
 obtain⟨r1a,r1b⟩:=r1
 have HF:=Lib.hid hf
 clear hu hx hf
 have hw1:IntKind.i64.wrap ((u.funcs.length:Int)-1)=(u.funcs.length:Int)-1:=by rw [IntKind.wrap_i64];omega
 have hw2:IntKind.i64.wrap ((u.funs.length:Int)-1)=(u.funs.length:Int)-1:=by rw [IntKind.wrap_i64];omega
 have E:Hid (numberB u.funcs.length u.funs x=(decide (x.n=1)||decide (x.n=8))):=Lib.hid (by unfold numberB;rw [hop];rfl)
 rw [hop]at c0
 clear hop
 by_cases n1:x.n=1
 ·have t1:(x.n==1)=true:=by rw [n1];rfl
  have E2:Hid (numberB u.funcs.length u.funs x=true):=Lib.hid (by rw [E.out,decide_eq_true n1];rfl)
  clear n1
  go_enter Tryz.func41,Tryz.ntmps41
  go_wp2_with fail
  go_ret
  exact⟨retb E2.out.symm,Below.refl _ _⟩
 ·have t1:(x.n==1)=false:=beq_eq_false_iff_ne.2 n1
  by_cases n8:x.n=8
  ·have t2:(x.n==8)=true:=by rw [n8];rfl
   have E2:Hid (numberB u.funcs.length u.funs x=true):=Lib.hid (by rw [E.out,decide_eq_true n8];simp)
   clear n1 n8
   go_enter Tryz.func41,Tryz.ntmps41
   go_wp2_with fail
   go_ret
   exact⟨retb E2.out.symm,Below.refl _ _⟩
  ·have t2:(x.n==8)=false:=beq_eq_false_iff_ne.2 n8
   have E2:Hid (numberB u.funcs.length u.funs x=false):=Lib.hid (by rw [E.out,decide_eq_false n1,decide_eq_false n8];rfl)
   clear n1 n8
   go_enter Tryz.func41,Tryz.ntmps41
   go_wp2_with fail
   go_ret
   exact⟨retb E2.out.symm,Below.refl _ _⟩
theorem number_33 (B:Nat) (u:RUnit) (lo' fo go' co':Option Addr) (lc fc gc' cc':Nat) (b o:Nat) (x:RIns) (so co go:Option Addr) (sc cc gc:Nat) (w:World) (hu:UBox w B u lo' fo go' co' lc fc gc' cc') (hl:u.funcs.length<=9223372036854775807) (hl2:u.funs.length<=9223372036854775807) (hf:SlAt w 3 FunR go' u.funs) (hx:IBox w b o x so co go sc cc gc) (hop:x.op=33):
  Calls Tryz.prog 41 #[.pointer (some ⟨B,0,none⟩),.pointer (some ⟨b,o,none⟩)] w fun e w'=>e= .returned (.bool (numberB u.funcs.length u.funs x))/\Below w.heap.size w w':=by
 have c0:=hx.c0;have c3:=hx.c3;have c5:=hx.c5
 have b3:=hu.c3;have b4:=hu.c4
 have r1:=hx.rn;have r2:=hx.rsrc
 obtain⟨r1a,r1b⟩:=r1
 have HF:=Lib.hid hf
 clear hu hx hf
 have hw1:IntKind.i64.wrap ((u.funcs.length:Int)-1)=(u.funcs.length:Int)-1:=by rw [IntKind.wrap_i64];omega
 have hw2:IntKind.i64.wrap ((u.funs.length:Int)-1)=(u.funs.length:Int)-1:=by rw [IntKind.wrap_i64];omega
 have E:Hid (numberB u.funcs.length u.funs x=(decide (x.n=1)||decide (x.n=8))):=Lib.hid (by unfold numberB;rw [hop];rfl)
 rw [hop]at c0
 clear hop
 by_cases n1:x.n=1
 ·have t1:(x.n==1)=true:=by rw [n1];rfl
  have E2:Hid (numberB u.funcs.length u.funs x=true):=Lib.hid (by rw [E.out,decide_eq_true n1];rfl)
  clear n1
  go_enter Tryz.func41,Tryz.ntmps41
  go_wp2_with fail
  go_ret
  exact⟨retb E2.out.symm,Below.refl _ _⟩
 ·have t1:(x.n==1)=false:=beq_eq_false_iff_ne.2 n1
  by_cases n8:x.n=8
  ·have t2:(x.n==8)=true:=by rw [n8];rfl
   have E2:Hid (numberB u.funcs.length u.funs x=true):=Lib.hid (by rw [E.out,decide_eq_true n8];simp)
   clear n1 n8
   go_enter Tryz.func41,Tryz.ntmps41
   go_wp2_with fail
   go_ret
   exact⟨retb E2.out.symm,Below.refl _ _⟩
  ·have t2:(x.n==8)=false:=beq_eq_false_iff_ne.2 n8
   have E2:Hid (numberB u.funcs.length u.funs x=false):=Lib.hid (by rw [E.out,decide_eq_false n1,decide_eq_false n8];rfl)
   clear n1 n8
   go_enter Tryz.func41,Tryz.ntmps41
   go_wp2_with fail
   go_ret
   exact⟨retb E2.out.symm,Below.refl _ _⟩
theorem number_rest (B:Nat) (u:RUnit) (lo' fo go' co':Option Addr) (lc fc gc' cc':Nat) (b o:Nat) (x:RIns) (so co go:Option Addr) (sc cc gc:Nat) (w:World) (hu:UBox w B u lo' fo go' co' lc fc gc' cc') (hl:u.funcs.length<=9223372036854775807) (hl2:u.funs.length<=9223372036854775807) (hf:SlAt w 3 FunR go' u.funs) (hx:IBox w b o x so co go sc cc gc) (h5: ¬x.op=5) (h9: ¬x.op=9) (h15: ¬x.op=15) (h18: ¬x.op=18) (h19: ¬x.op=19) (h20: ¬x.op=20) (h21: ¬x.op=21) (h24: ¬x.op=24) (h31: ¬x.op=31) (h16: ¬x.op=16) (h17: ¬x.op=17) (h32: ¬x.op=32) (h33: ¬x.op=33) (h4: ¬x.op=4):
  Calls Tryz.prog 41 #[.pointer (some ⟨B,0,none⟩),.pointer (some ⟨b,o,none⟩)] w fun e w'=>e= .returned (.bool (numberB u.funcs.length u.funs x))/\Below w.heap.size w w':=by
 have c0:=hx.c0;have c3:=hx.c3;have c5:=hx.c5
 have b3:=hu.c3;have b4:=hu.c4
 have r1:=hx.rn;have r2:=hx.rsrc
 obtain⟨r1a,r1b⟩:=r1
 have HF:=Lib.hid hf
 clear hu hx hf
 have hw1:IntKind.i64.wrap ((u.funcs.length:Int)-1)=(u.funcs.length:Int)-1:=by rw [IntKind.wrap_i64];omega
 have hw2:IntKind.i64.wrap ((u.funs.length:Int)-1)=(u.funs.length:Int)-1:=by rw [IntKind.wrap_i64];omega
 have E:Hid (numberB u.funcs.length u.funs x=true):=Lib.hid (by unfold numberB;rw [if_neg h4,if_neg h5,if_neg h9,if_neg (by omega),if_neg (by omega),if_neg h24,if_neg h31,if_neg (by omega)])
 have t5:(x.op==5)=false:=beq_eq_false_iff_ne.2 h5
 have t9:(x.op==9)=false:=beq_eq_false_iff_ne.2 h9
 have t15:(x.op==15)=false:=beq_eq_false_iff_ne.2 h15
 have t18:(x.op==18)=false:=beq_eq_false_iff_ne.2 h18
 have t19:(x.op==19)=false:=beq_eq_false_iff_ne.2 h19
 have t20:(x.op==20)=false:=beq_eq_false_iff_ne.2 h20
 have t21:(x.op==21)=false:=beq_eq_false_iff_ne.2 h21
 have t24:(x.op==24)=false:=beq_eq_false_iff_ne.2 h24
 have t31:(x.op==31)=false:=beq_eq_false_iff_ne.2 h31
 have t16:(x.op==16)=false:=beq_eq_false_iff_ne.2 h16
 have t17:(x.op==17)=false:=beq_eq_false_iff_ne.2 h17
 have t32:(x.op==32)=false:=beq_eq_false_iff_ne.2 h32
 have t33:(x.op==33)=false:=beq_eq_false_iff_ne.2 h33
 have t4:(x.op==4)=false:=beq_eq_false_iff_ne.2 h4
 clear h5 h9 h15 h18 h19 h20 h21 h24 h31 h16 h17 h32 h33 h4
 go_enter Tryz.func41,Tryz.ntmps41
 go_wp2_with fail
 go_ret
 exact⟨retb E.out.symm,Below.refl _ _⟩
theorem number_4 (B:Nat) (u:RUnit) (lo' fo go' co':Option Addr) (lc fc gc' cc':Nat) (b o:Nat) (x:RIns) (so co go:Option Addr) (sc cc gc:Nat) (w:World) (hu:UBox w B u lo' fo go' co' lc fc gc' cc') (hl:u.funcs.length<=9223372036854775807) (hl2:u.funs.length<=9223372036854775807) (hf:SlAt w 3 FunR go' u.funs) (hx:IBox w b o x so co go sc cc gc) (hop:x.op=4):
  Calls Tryz.prog 41 #[.pointer (some ⟨B,0,none⟩),.pointer (some ⟨b,o,none⟩)] w fun e w'=>e= .returned (.bool (numberB u.funcs.length u.funs x))/\Below w.heap.size w w':=by
 have c0:=hx.c0;have c3:=hx.c3;have c5:=hx.c5
 have b3:=hu.c3;have b4:=hu.c4
 have r1:=hx.rn;have r2:=hx.rsrc
 obtain⟨r1a,r1b⟩:=r1
 have HF:=Lib.hid hf
 clear hu hx hf
 have hw1:IntKind.i64.wrap ((u.funcs.length:Int)-1)=(u.funcs.length:Int)-1:=by rw [IntKind.wrap_i64];omega
 have hw2:IntKind.i64.wrap ((u.funs.length:Int)-1)=(u.funs.length:Int)-1:=by rw [IntKind.wrap_i64];omega
 have E:Hid (numberB u.funcs.length u.funs x=(wi x.n 0 ((u.funs.length:Int)-1)&&(match u.funs[x.n.toNat]? with
   |some f=>decide ((x.src.length:Int)=f.free)
   |none=>false))):=Lib.hid (by unfold numberB;rw [hop];rfl)
 rw [hop]at c0
 clear hop
 cases hw:wi x.n 0 ((u.funs.length:Int)-1)with
 |false=>
  have E2:Hid (numberB u.funcs.length u.funs x=false):=Lib.hid (by rw [E.out,hw];rfl)
  have hwr: ∀wx,Calls Tryz.prog 71 #[.int .i64 x.n,.int .i64 0,.int .i64 ((u.funs.length:Int)-1)] wx fun e w'=>e= .returned (.bool false)/\w'=wx:=fun wx=>by
   have:=within_any x.n 0 ((u.funs.length:Int)-1) wx
   rw [hw]at this
   exact this.mono fun _ _ ⟨a,b⟩=>⟨a,b.symm⟩
  clear hw E
  go_enter Tryz.func41,Tryz.ntmps41
  go_wp2_with fail
  go_quiet ((go_at_call 71;exact Calls.quiet_of_same (hwr _)))
  go_wp2_with fail
  go_ret
  exact⟨retb E2.out.symm,below_drewN (Below.refl _ _) _⟩
 |true=>
  have hr:0<=x.n/\x.n<=(u.funs.length:Int)-1:=by
   unfold wi at hw
   rw [Bool.and_eq_true,decide_eq_true_eq,decide_eq_true_eq]at hw
   exact hw
  obtain⟨m,hm⟩:=Int.eq_ofNat_of_zero_le hr.1
  have hml:m<u.funs.length:=by omega
  obtain⟨b2,off,hao,hb2,q0,q1,q2,_,_,_⟩:=HF.out.fn hml
  subst hao
  have E2:Hid (numberB u.funcs.length u.funs x=decide ((x.src.length:Int)=u.funs[m].free)):=Lib.hid (by
   rw [E.out,hw,hm]
   have:u.funs[(((m:Nat):Int)).toNat]?=some u.funs[m]:=by rw [Int.toNat_natCast];exact List.getElem?_eq_getElem hml
   rw [this];rfl)
  have hwr: ∀wx,Calls Tryz.prog 71 #[.int .i64 (m:Int),.int .i64 0,.int .i64 ((u.funs.length:Int)-1)] wx fun e w'=>e= .returned (.bool true)/\w'=wx:=fun wx=>by
   have:=within_any (m:Int) 0 ((u.funs.length:Int)-1) wx
   rw [<-hm,hw]at this
   rw [<-hm]
   exact this.mono fun _ _ ⟨a,b⟩=>⟨a,b.symm⟩
  rw [hm]at c5
  clear hw hr E r1a r1b
  generalize u.funs[m].free=z at *
  generalize x.n=xn at *
  by_cases hz:(x.src.length:Int)=z
  ·have E3:Hid (numberB u.funcs.length u.funs x=true):=Lib.hid (by rw [E2.out,decide_eq_true hz])
   have t:((x.src.length:Int)==z)=true:=by rw [hz];exact beq_self_eq_true _
   clear hz hm
   go_enter Tryz.func41,Tryz.ntmps41
   go_wp2_with fail
   go_quiet ((go_at_call 71;exact Calls.quiet_of_same (hwr _)))
   go_wp2_with fail
   go_ret
   exact⟨retb E3.out.symm,below_drewN (Below.refl _ _) _⟩
  ·have E3:Hid (numberB u.funcs.length u.funs x=false):=Lib.hid (by rw [E2.out,decide_eq_false hz])
   have t:((x.src.length:Int)==z)=false:=beq_eq_false_iff_ne.2 hz
   clear hz hm
   go_enter Tryz.func41,Tryz.ntmps41
   go_wp2_with fail
   go_quiet ((go_at_call 71;exact Calls.quiet_of_same (hwr _)))
   go_wp2_with fail
   go_ret
   exact⟨retb E3.out.symm,below_drewN (Below.refl _ _) _⟩
theorem number_any (B:Nat) (u:RUnit) (lo' fo go' co':Option Addr) (lc fc gc' cc':Nat) (b o:Nat) (x:RIns) (so co go:Option Addr) (sc cc gc:Nat) (w:World) (hu:UBox w B u lo' fo go' co' lc fc gc' cc') (hl:u.funcs.length<=9223372036854775807) (hl2:u.funs.length<=9223372036854775807) (hf:SlAt w 3 FunR go' u.funs) (hx:IBox w b o x so co go sc cc gc):
  Calls Tryz.prog 41 #[.pointer (some ⟨B,0,none⟩),.pointer (some ⟨b,o,none⟩)] w fun e w'=>e= .returned (.bool (numberB u.funcs.length u.funs x))/\Below w.heap.size w w':=by
 by_cases h5:x.op=5
 ·exact number_5 B u lo' fo go' co' lc fc gc' cc' b o x so co go sc cc gc w hu hl hl2 hf hx h5
 by_cases h9:x.op=9
 ·exact number_9 B u lo' fo go' co' lc fc gc' cc' b o x so co go sc cc gc w hu hl hl2 hf hx h9
 by_cases h15:x.op=15
 ·exact number_15 B u lo' fo go' co' lc fc gc' cc' b o x so co go sc cc gc w hu hl hl2 hf hx h15
 by_cases h18:x.op=18
 ·exact number_18 B u lo' fo go' co' lc fc gc' cc' b o x so co go sc cc gc w hu hl hl2 hf hx h18
 by_cases h19:x.op=19
 ·exact number_19 B u lo' fo go' co' lc fc gc' cc' b o x so co go sc cc gc w hu hl hl2 hf hx h19
 by_cases h20:x.op=20
 ·exact number_20 B u lo' fo go' co' lc fc gc' cc' b o x so co go sc cc gc w hu hl hl2 hf hx h20
 by_cases h21:x.op=21
 ·exact number_21 B u lo' fo go' co' lc fc gc' cc' b o x so co go sc cc gc w hu hl hl2 hf hx h21
 by_cases h24:x.op=24
 ·exact number_24 B u lo' fo go' co' lc fc gc' cc' b o x so co go sc cc gc w hu hl hl2 hf hx h24
 by_cases h31:x.op=31
 ·exact number_31 B u lo' fo go' co' lc fc gc' cc' b o x so co go sc cc gc w hu hl hl2 hf hx h31
 by_cases h16:x.op=16
 ·exact number_16 B u lo' fo go' co' lc fc gc' cc' b o x so co go sc cc gc w hu hl hl2 hf hx h16
 by_cases h17:x.op=17
 ·exact number_17 B u lo' fo go' co' lc fc gc' cc' b o x so co go sc cc gc w hu hl hl2 hf hx h17
 by_cases h32:x.op=32
 ·exact number_32 B u lo' fo go' co' lc fc gc' cc' b o x so co go sc cc gc w hu hl hl2 hf hx h32
 by_cases h33:x.op=33
 ·exact number_33 B u lo' fo go' co' lc fc gc' cc' b o x so co go sc cc gc w hu hl hl2 hf hx h33
 by_cases h4:x.op=4
 ·exact number_4 B u lo' fo go' co' lc fc gc' cc' b o x so co go sc cc gc w hu hl hl2 hf hx h4
 exact number_rest B u lo' fo go' co' lc fc gc' cc' b o x so co go sc cc gc w hu hl hl2 hf hx h5 h9 h15 h18 h19 h20 h21 h24 h31 h16 h17 h32 h33 h4
def leftOf:List Bool->Nat
 |[]=>0
 |b::l=>(if b then 0 else 1)+leftOf l
theorem leftOf_set: ∀(l:List Bool) (i:Nat),l[i]?=some false->leftOf (l.set i true)+1=leftOf l
 |[],i,h=>by simp at h
 |b::l,0,h=>by
  simp at h
  subst h
  show 0+leftOf l+1=1+leftOf l
  omega
 |b::l,i+1,h=>by
  have:=leftOf_set l i (by simpa using h)
  show(if b then 0 else 1)+leftOf (l.set i true)+1=(if b then 0 else 1)+leftOf l
  omega
theorem leftOf_zero: ∀(l:List Bool),leftOf l=0-> ∀(i:Nat) b,l[i]?=some b->b=true
 |[],_,i,b,h=>by simp at h
 |b::l,h0,0,c,h=>by
  simp at h
  subst h
  cases b with
  |true=>rfl
  |false=>have:1+leftOf l=0:=h0;omega
 |b::l,h0,i+1,c,h=>leftOf_zero l (by have:(if b then 0 else 1)+leftOf l=0:=h0;omega) i c (by simpa using h)
theorem leftOf_rep: ∀n:Nat,leftOf (List.replicate n false)=n
 |0=>rfl
 |n+1=>by
  show 1+leftOf (List.replicate n false)=n+1
  rw [leftOf_rep n];omega
section
variable {P:Program} {ops:Array Oper} {Q:Exit->Act->World->Prop} {md:Region.Mode}
theorem ready_mem {listed:Array Bool} {i:Nat} (h:i∈Region.ready md ops listed):i<ops.size/\listed.getD i true=false/\ ∀o,ops[i]?=some o-> ∀e∈o.after,Region.binds md e=true->listed.getD e.on false=true:=by
 unfold Region.ready at h
 obtain⟨h1,h2⟩:=List.mem_filter.1 h
 rw [Bool.and_eq_true]at h2
 refine⟨List.mem_range.1 h1,by simpa using h2.1,fun o ho e he hb=>?_⟩
 have h3:=h2.2
 rw [ho]at h3
 have h4:=Array.all_eq_true_iff_forall_mem.1 (show o.after.all (fun e=>!Region.binds md e||listed.getD e.on false)=true from h3) e he
 rw [hb]at h4
 exact h4
theorem mem_ready {listed:Array Bool} {i:Nat} {o:Oper} (hi:ops[i]?=some o) (h1:listed.getD i true=false) (h2: ∀e∈o.after,Region.binds md e=true->listed.getD e.on false=true):i∈Region.ready md ops listed:=by
 unfold Region.ready
 refine List.mem_filter.2 ⟨List.mem_range.2 (Array.getElem?_eq_some_iff.1 hi).1,?_⟩
 rw [Bool.and_eq_true,hi]
 refine⟨by rw [h1];rfl,?_⟩
 show o.after.all _=true
 refine Array.all_eq_true_iff_forall_mem.2 fun e he=>?_
 cases hb:Region.binds md e with
 |false=>rfl
 |true=>rw [h2 e he hb];rfl
theorem wpAny_inv (Inv:Array Bool->Act->World->Prop)
  (hstep: ∀listed a w i,listed.size=ops.size->Inv listed a w->i∈Region.ready md ops listed->wpOp P ops Q i (fun a' w'=>Inv (listed.setIfInBounds i true) a' w') a w)
  (hend: ∀listed a w,listed.size=ops.size->Inv listed a w->Region.ready md ops listed= []->Q .normal a w):
  ∀(fuel:Nat) (listed:Array Bool) (a:Act) (w:World),listed.size=ops.size->leftOf listed.toList<=fuel->Inv listed a w->wpAny P md ops Q fuel listed a w
 |0,listed,a,w,hs,hl,hi=>by
  have hr:Region.ready md ops listed= []:=List.eq_nil_iff_forall_not_mem.2 fun i hi=>by
   obtain⟨h1,h2,-⟩:=ready_mem hi
   have h3:listed[i]?=some false:=by
    rw [<-hs]at h1
    rw [Array.getElem?_eq_getElem h1]
    rw [Array.getD_eq_getD_getElem?,Array.getElem?_eq_getElem h1]at h2
    exact congrArg some h2
   have:=leftOf_zero listed.toList (Nat.le_zero.1 hl) i false (by rw [Array.getElem?_toList];exact h3)
   cases this
  exact⟨hr,hend _ _ _ hs hi hr⟩
 |fuel+1,listed,a,w,hs,hl,hi=>by
  refine⟨fun h=>hend _ _ _ hs hi h,fun i hr=>?_⟩
  refine wpOp_mono (fun a' w' h'=>?_) (hstep _ _ _ _ hs hi hr)
  obtain⟨h1,h2,-⟩:=ready_mem hr
  have h3:listed[i]?=some false:=by
   rw [<-hs]at h1
   rw [Array.getElem?_eq_getElem h1]
   rw [Array.getD_eq_getD_getElem?,Array.getElem?_eq_getElem h1]at h2
   exact congrArg some h2
  refine wpAny_inv Inv hstep hend fuel _ a' w' (by simpa using hs) ?_ h'
  have h4:=leftOf_set listed.toList i (by rw [Array.getElem?_toList];exact h3)
  rw [Array.toList_setIfInBounds]
  omega
def backOk (md:Region.Mode) (ops:Array Oper):Bool:=(List.range ops.size).all fun i=>match ops[i]? with
 |some o=>o.after.all fun e=>!Region.binds md e||decide (e.on<i)
 |none=>true
theorem all_listed {listed:Array Bool} (hb:backOk md ops=true) (hs:listed.size=ops.size) (hr:Region.ready md ops listed= []): ∀i,i<ops.size->listed.getD i false=true:=by
 intro i
 induction i using Nat.strongRecOn with
 |_ i ih=>
  intro hi
  cases h:listed.getD i false with
  |true=>rfl
  |false=>
   exfalso
   have h1:listed.getD i true=false:=by
    rw [Array.getD_eq_getD_getElem?,Array.getElem?_eq_getElem (by omega)]at h ⊢
    exact h
   have ho:ops[i]?=some ops[i]:=Array.getElem?_eq_getElem hi
   have hm:i∈Region.ready md ops listed:=mem_ready ho h1 fun e he hbe=>by
    have h2:=List.all_eq_true.1 hb i (List.mem_range.2 hi)
    rw [ho]at h2
    have h3:=Array.all_eq_true_iff_forall_mem.1 (show ops[i].after.all (fun e=>!Region.binds md e||decide (e.on<i))=true from h2) e he
    rw [hbe]at h3
    have h4:e.on<i:=of_decide_eq_true h3
    exact ih _ h4 (Nat.lt_trans h4 hi)
   rw [hr]at hm
   cases hm
theorem wp_region_inv {id:Nat} {ops':Array Oper} {a:Act} {w:World} (Inv:Array Bool->Act->World->Prop) (hm:P.follows .mixedOrders=true) (he:ops'=ops) (hb:backOk .any ops=true)
  (h0:Inv (Array.replicate ops.size false) a w.drew)
  (hstep: ∀listed a w i,listed.size=ops.size->Inv listed a w->i∈Region.ready .any ops listed->wpOp P ops Q i (fun a' w'=>Inv (listed.setIfInBounds i true) a' w') a w)
  (hend: ∀listed a w,Inv listed a w->(∀i,i<ops.size->listed.getD i false=true)->Q .normal a w):(Code.region id ops' true).wp P Q a w:=by
 subst he
 refine wp_region_any hm ?_
 refine wpAny_inv Inv hstep (fun l a w hs hi hr=>hend l a w hi (all_listed hb hs hr)) _ _ _ _ (by simp) ?_ h0
 rw [Array.toList_replicate,leftOf_rep]
 exact Nat.le_refl _
theorem wpOp_of {i:Nat} {o:Oper} {K:Act->World->Prop} {a:Act} {w:World} (ho:ops[i]?=some o) (hg:o.guard=none) (h:o.wp P a w K Q):wpOp P ops Q i K a w:=by
 unfold wpOp
 rw [ho]
 have hw:Region.wanted o (yielded ops a.tmps)=true:=by simp [Region.wanted,hg]
 simp only [hw,if_true]
 exact .inl h
theorem wp_move {o:Oper} {a:Act} {w:World} {K:Act->World->Prop} (x:Operand) (ho:o.op= .move x) (h:K (a.put o.dst (a.eval x)) w):o.wp P a w K Q:=by
 unfold Oper.wp
 have:(execOp a.eval o).run P w= .ok (.value (a.eval x)) w:=by simp [execOp,ho]
 rw [this]
 exact h
theorem wp_assign {o:Oper} {a:Act} {w:World} {K:Act->World->Prop} (x:Operand) (ho:o.op= .assign x) (h:K (a.put o.dst (a.eval x)) w):o.wp P a w K Q:=by
 unfold Oper.wp
 have:(execOp a.eval o).run P w= .ok (.value (a.eval x)) w:=by simp [execOp,ho]
 rw [this]
 exact h
theorem wp_build' {o:Oper} {a:Act} {w:World} {K:Act->World->Prop} (t:TypeId) (parts:Array (Nat × Operand)) (ho:o.op= .build t parts) (cells:Array Value) (hb:P.built t (parts.map fun(i,x)=>(i,a.eval x)).toList=some cells) (h:K (a.put o.dst (.agg cells)) w):o.wp P a w K Q:=by
 unfold Oper.wp execOp
 simp only [ho,Sem.run_bind,run_build w t _ _ hb,Result.andThen_ok]
 exact h
theorem wp_call' {o:Oper} {a:Act} {w:World} {K:Act->World->Prop} (f:FuncId) (args:Array Value) (hrun:(execOp a.eval o).run P w= .ok (.enter f args) w) (R:Value->World->Prop)
  (hc:Calls P f args w fun e w''=> ∃v,e= .returned v/\R v w'') (h: ∀v w'',R v w''->K (a.put o.dst v) w''):o.wp P a w K Q:=by
 unfold Oper.wp
 rw [hrun,Oper.upon_enter]
 refine hc.mono fun e w'' hh=>?_
 obtain⟨v,rfl,hv⟩:=hh
 exact h _ _ hv
theorem eval_put (a:Act) (d t:Tmp) (v:Value) (h:d<a.tmps.size):(a.put (some d) v).eval (.tmp t)=if t=d then v else a.eval (.tmp t):=by
 show(a.tmps.setIfInBounds d v).getD t undef=if t=d then v else a.tmps.getD t undef
 rw [Array.getD_eq_getD_getElem?,Array.getD_eq_getD_getElem?,Array.getElem?_setIfInBounds]
 by_cases c:d=t
 ·subst c;simp [h]
 ·rw [if_neg c,if_neg (fun e=>c e.symm)]
def regOps (id:Nat):Code->Array Oper
 |.region i ops _=>if i=id then ops else#[]
 |.seq a b=>let x:=regOps id a;if x.size=0 then regOps id b else x
 |.block _ b=>regOps id b
 |_=>#[]
end
theorem results_cell_tmp {P:Program} {fn:Func} {p q:Tmp} {ty:TypeId} (h:fn.results=#[.cell p ty,.tmp q]) (tmps:Array Value) (w:World) (g:Nat) (t:TypeId) (cs:Array Value) (fr:Nat × Nat) (d:TypeDesc)
  (hp:tmps.getD p undef= .pointer (some ⟨g,0,none⟩)) (hg:w.heap[g]?=some (.cells cs t fr))
  (hu:P.underlying ty=some d) (hd:(match d with|.struct _|.array _ _=>true|_=>false)=true) (hi:(P.info? ty).map (·.size)=some cs.size):
  (results fn tmps).run P w= .ok (.tuple #[.agg cs,tmps.getD q undef]) w:=by
 have hp':tmps[p]?.getD undef= .pointer (some ⟨g,0,none⟩):=by simpa using hp
 simp [results,h,hp',asAddr,run_loadVar_row w g t ty cs fr d hg hu hd hi]
set_option maxRecDepth 100000
theorem imgis_nil (w:World):Calls Tryz.prog 48 #[.pointer none] w fun e w'=>e= .returned (.bool false)/\w'=w:=by
 go_in
 go_wp2_with fail
 go_ret
 exact⟨rfl,rfl⟩
theorem imgis_zero (b:Nat) (w:World) (h:w.cell? ⟨b,6,none⟩=some (.map none)):Calls Tryz.prog 48 #[.pointer (some ⟨b,0,none⟩)] w fun e w'=>e= .returned (.bool false)/\w'=w:=by
 have hne:(binOp .neq 62 (.map none) (.map none)).run Tryz.prog w= .ok (.bool false) w:=Go.run_neq_map_nil (P:=Tryz.prog) w 62 _ _ none Tryz.underlying62
 go_in
 go_wp2_with fail
 go_ret
 exact⟨rfl,rfl⟩
theorem imgmodule_nil (w:World):Calls Tryz.prog 23 #[.pointer none] w fun e w'=>e= .returned (.string ⟨#[]⟩)/\w'=w:=by
 go_in
 go_wp2_with fail
 refine(imgis_nil w).mono ?_
 rintro e w1 ⟨rfl,rfl⟩
 go_wp2_with fail
 go_ret
 exact⟨rfl,rfl⟩
theorem imgvsn_zero (b:Nat) (w:World) (h:w.cell? ⟨b,6,none⟩=some (.map none)):Calls Tryz.prog 30 #[.pointer (some ⟨b,0,none⟩)] w fun e w'=>e= .returned (.int .i64 0)/\w'=w:=by
 have HI:=Lib.hid (imgis_zero b w h)
 clear h
 go_in
 go_wp2_with fail
 refine HI.out.mono ?_
 rintro e w1 ⟨rfl,rfl⟩
 go_wp2_with fail
 go_ret
 exact⟨rfl,rfl⟩
theorem imgfind_nil (s:ByteArray) (n:Int) (w:World):Calls Tryz.prog 28 #[.pointer none,.string s,.int .i64 n] w fun e w'=>e= .returned (.tuple #[.int .i64 0,.bool false])/\w'=w:=by
 go_in
 go_wp2_with fail
 refine(imgis_nil w).mono ?_
 rintro e w1 ⟨rfl,rfl⟩
 go_wp2_with fail
 go_ret2
 exact⟨rfl,rfl⟩
theorem imgfun_zero (b:Nat) (n:Int) (w:World) (h:w.cell? ⟨b,6,none⟩=some (.map none)):Calls Tryz.prog 29 #[.pointer (some ⟨b,0,none⟩),.int .i64 n] w fun e w'=>e= .returned (.tuple #[.agg #[.int .i64 0,.int .i64 0,.int .i64 0],.bool false])/\Below w.heap.size w w':=by
 have HI:Hid (∀wx,Below w.heap.size w wx->Calls Tryz.prog 48 #[.pointer (some ⟨b,0,none⟩)] wx fun e w'=>e= .returned (.bool false)/\w'=wx):=Lib.hid (fun wx hx=>imgis_zero b wx ((hx.cell (p:=⟨b,6,none⟩) (World.block_lt_of_cell? w _ h)).trans h))
 clear h
 go_in
 go_wp2_with fail
 refine(HI.out _ ((Below.refl _ _).alloc (Nat.le_refl _) _)).mono ?_
 rintro e w1 ⟨rfl,rfl⟩
 go_wp2_with fail
 refine bodyPost_ret (results_cell_tmp rfl _ _ w.heap.size _ _ _ _ rfl (heap_alloc_new _ _) Tryz.underlying70 rfl (by kernel_rfl)) rfl ?_
 exact⟨rfl,(Below.refl _ _).alloc (Nat.le_refl _) _⟩
theorem imgunit_nil (w:World):Calls Tryz.prog 21 #[.pointer none] w fun e w'=>e= .returned (.agg #[.string ⟨#[]⟩,.int .i64 0,.slice none 0 0,.slice none 0 0,.slice none 0 0,.slice none 0 0])/\Below w.heap.size w w':=by
 go_in
 go_wp2_with fail
 refine(imgis_nil _).mono ?_
 rintro e w1 ⟨rfl,rfl⟩
 go_wp2_with fail
 refine bodyPost_ret (results_cell_row rfl _ _ w.heap.size _ _ _ _ rfl (heap_alloc_new _ _) Tryz.underlying27 rfl (by kernel_rfl)) rfl ?_
 exact⟨rfl,(Below.refl _ _).alloc (Nat.le_refl _) _⟩
end Go.Proofs.YtepjanajflkakaaGreatDoor
