import Derived.Test.YtponljdhfoipjaaGreatDoorW04
import Derived.Test.YtponljdhfoipjaaGreatDoorW05
namespace Go.Proofs.YtponljdhfoipjaaGreatDoor
open Go.RowKit
set_option linter.unusedVariables false
set_option linter.unusedSimpArgs false
set_option maxRecDepth 100000
set_option maxHeartbeats 0
open Go.RowKit Go.Shelf
attribute [local go_sem] Oper.semAt_some
def KpT (n Bp:Nat) (A B:World):Prop:=Below n A B/\ ∀v,Boxed A Bp 120 v->Boxed B Bp 120 v
theorem KpT.refl (n Bp:Nat) (A:World):KpT n Bp A A:=⟨Below.refl _ _,fun _ h=>h⟩
theorem KpT.trans {n Bp:Nat} {A B C:World} (h:KpT n Bp A B) (k:KpT n Bp B C):KpT n Bp A C:=⟨h.1.trans k.1,fun v x=>k.2 v (h.2 v x)⟩
structure TgAt (w0:World) (W:World) (Bp b o:Nat) (x:RIns) (co:Option Addr) (cc:Nat):Prop where
 bl:Below w0.heap.size w0 W
 bp:Boxed W Bp 120 (.pointer (some ⟨b,o,none⟩))
 lt:b<w0.heap.size
 c0:w0.cell? ⟨b,o,none⟩=some (.int .i64 x.op)
 c4:w0.cell? ⟨b,o+4,none⟩=some (.int .i64 x.to)
 c8:w0.cell? ⟨b,o+8,none⟩=some (.slice co x.cases.length cc)
 cases:SlAt w0 2 CaseR co x.cases
theorem TgAt.keep {w0 W W':World} {Bp b o:Nat} {x:RIns} {co:zzA} {cc:Nat} (h:TgAt w0 W Bp b o x co cc) (k:KpT w0.heap.size Bp W W'):TgAt w0 W' Bp b o x co cc:=
 ⟨h.bl.trans k.1,k.2 _ h.bp,h.lt,h.c0,h.c4,h.c8,h.cases⟩
theorem TgAt.cells {w0 W:World} {Bp b o:Nat} {x:RIns} {co:zzA} {cc:Nat} (h:TgAt w0 W Bp b o x co cc):W.cell? ⟨Bp,0,none⟩=some (.pointer (some ⟨b,o,none⟩))/\W.cell? ⟨b,o,none⟩=some (.int .i64 x.op)/\W.cell? ⟨b,o+4,none⟩=some (.int .i64 x.to)/\W.cell? ⟨b,o+8,none⟩=some (.slice co x.cases.length cc):=
 ⟨h.bp.cell,(h.bl.cell (p:=⟨b,o,none⟩) h.lt).trans h.c0,(h.bl.cell (p:=⟨b,o+4,none⟩) h.lt).trans h.c4,(h.bl.cell (p:=⟨b,o+8,none⟩) h.lt).trans h.c8⟩
theorem undef_bool {b:Bool} (h:some undef=some (Value.bool b)):False:=by unfold undef at h;cases h
def TgPost (i:Nat) (x:RIns) (J Jx:List Int->World->Prop) (e:Ending) (W':World):Prop:=
 (∃v,e= .returned v)/\((∃ys,ys=targetsV i x/\J ys W')\/(∃pre,True/\Jx pre W'))
theorem vtargets_in (F:Fence) (n:Nat) (hF:F.fn 197) (hro:F.round=none) (hn:1<=n) (l Bp Bi b o i:Nat) (x:RIns) (co:zzA) (cc:Nat) (w0:World) (hcl:x.cases.length<=1000) (hi:i<=1000000)
  (J Jx:List Int->World->Prop) (hJ: ∀s A o,J s A->J s (A.alloc o))
  (hY: ∀pre y W,J pre W->pre.length<1100->YieldAt F (n-1) Tryz.prog l #[.int .i64 y] W fun e W'=>(e= .returned (.bool true)/\J (pre++ [y]) W'/\KpT w0.heap.size Bp W W')\/(e= .returned (.bool false)/\Jx (pre++ [y]) W'))
  (W:World) (ht:TgAt w0 W Bp b o x co cc) (hbi:W.cell? ⟨Bi,0,none⟩=some (.int .i64 i)) (h0:J [] W):
  CallsIn F n Tryz.prog 197 #[.func (.yield l) #[] #[],.pointer (some ⟨Bp,0,none⟩),.pointer (some ⟨Bi,0,none⟩)] W (TgPost i x J Jx):=by
 obtain⟨a0,a1,a2,a3⟩:=ht.cells
 have HT:=Lib.hid ht
 have HTG:Hid (targetsV i x=(if followsV x.op=true then [(i:Int)+1]else [])++((if toB x.op=true then [x.to]else [])++(if x.op=12 then x.cases.map RCase.to else []))):=Lib.hid rfl
 have HL:=Lib.hid hcl
 clear ht hcl
 obtain⟨op,hop⟩: ∃op,op=x.op:=⟨_,rfl⟩
 rw [<-hop]at HTG a1
 have HOP:=Lib.hid hop
 clear hop
 obtain⟨jt,hto⟩: ∃jt,jt=x.to:=⟨_,rfl⟩
 rw [<-hto]at HTG a2
 have HTO:=Lib.hid hto
 clear hto
 refine callsIn_of_wp Tryz.func197 rfl hF ?_ hro
 simp only [Tryz.ntmps197,List.size_toArray,List.length_cons,List.length_nil,Nat.reduceAdd,Nat.reduceSub,Array.replicate_succ,Array.replicate_zero,List.push_toArray,List.append_toArray,List.nil_append,List.cons_append]
 by_cases hA:op=17\/op=19\/op=21\/op=23\/op=26\/op=27
 ·rcases hA with rfl|rfl|rfl|rfl|rfl|rfl
  all_goals
   as_aux_lemma=>
   gi_wp2
   refine⟨fun _ h=>(by cases h),?_⟩;gi_wp2
   refine bodyPost_ret (results_none rfl _ _ _) rfl ?_
   exact⟨⟨_,rfl⟩,.inl ⟨_,HTG.out.symm,h0⟩⟩
 ·by_cases hB:op=8\/op=39
  ·obtain⟨fn,tmps,assign,body,hy,hR⟩:=hY [] jt W h0 (by decide)
   rcases hB with rfl|rfl
   all_goals
    as_aux_lemma=>
    clear hA
    gi_wp2
    refine⟨fun _ h=>(by cases h),?_⟩;gi_wp2
    refine hR.mono ?_
    rintro e W3 (⟨rfl,hJ3,hk3⟩|⟨rfl,hJx3⟩)
    ·obtain⟨d0,d1,d2,d3⟩:=(HT.out.keep hk3).cells
     rw [<-HOP.out]at d1
     gi_wp2
     refine bodyPost_ret (results_none rfl _ _ _) rfl ?_
     exact⟨⟨_,rfl⟩,.inl ⟨_,HTG.out.symm,hJ3⟩⟩
    ·gi_wp2
     refine bodyPost_ret (results_none rfl _ _ _) rfl ?_
     exact⟨⟨_,rfl⟩,.inr ⟨_,trivial,hJx3⟩⟩
  ·by_cases hD:op=12
   ·subst hD
    as_aux_lemma=>
    obtain⟨fn,tmps,assign,body,hy,hR⟩:=hY [] jt W h0 (by decide)
    clear hA hB
    gi_wp2
    refine⟨fun _ h=>(by cases h),?_⟩;gi_wp2
    refine hR.mono ?_
    rintro e W3 (⟨rfl,hJ3,hk3⟩|⟨rfl,hJx3⟩)
    ·obtain⟨d0,d1,d2,d3⟩:=(HT.out.keep hk3).cells
     rw [<-HOP.out]at d1
     have HT3:=Lib.hid (HT.out.keep hk3)
     have hlen:=HL.out
     have HJ3:=Lib.hid hJ3
     clear hy hR hk3 hJ3 a0 a1 a2 a3 hbi h0
     obtain⟨m,hm⟩: ∃m,m=x.cases.length:=⟨_,rfl⟩
     rw [<-hm]at d3 hlen
     have HM:=Lib.hid hm
     clear hm
     gi_wp2
     gi_loopw [67] (fun kv wr=> ∃k:Nat,k<=m/\kv= .int .i64 k/\Hid (J (jt::(x.cases.take k).map RCase.to) wr)/\Hid (TgAt w0 wr Bp b o x co cc)) (fun kv _=>m-(intOf kv).toNat)
     case atStart=>exact⟨0,Nat.zero_le _,rfl,HJ3,HT3⟩
     case round=>
      obtain⟨k,hk,rfl,HJk,HTk⟩:=hrel
      rename World=>wr
      by_cases hlt:k<m
      ·have hkx:k<x.cases.length:=by rw [<-HM.out];exact hlt
       obtain⟨cb,cf,hco,hcb,q0,q1,r0,r1⟩:=(HTk.out.cases.mono HTk.out.bl (fun _ _ h=>h)).case hkx
       subst hco
       obtain⟨lv,hlv⟩: ∃lv,lv=x.cases[k].lit:=⟨_,rfl⟩
       obtain⟨tv,htv⟩: ∃tv,tv=x.cases[k].to:=⟨_,rfl⟩
       rw [<-hlv]at q0
       rw [<-htv]at q1
       have hal:Below w0.heap.size wr (wr.alloc (.cells #[.int .i64 lv,.int .i64 tv] 124)):=(Below.refl _ _).alloc HTk.out.bl.size _
       have hJa:J (jt::(x.cases.take k).map RCase.to) (wr.alloc (.cells #[.int .i64 lv,.int .i64 tv] 124)):=hJ _ _ _ HJk.out
       have HTA:Hid (TgAt w0 (wr.alloc (.cells #[.int .i64 lv,.int .i64 tv] 124)) Bp b o x (some ⟨cb,cf,none⟩) cc):=Lib.hid (HTk.out.keep ⟨hal,fun v h=>h.alloc _⟩)
       obtain⟨fn,tmps,assign,body,hy,hR⟩:=hY _ tv _ hJa (by rw [List.length_cons,List.length_map,List.length_take];omega)
       have hI0:(0:Int)<=(k:Int):=by omega
       have hI1:(k:Int)<(m:Int):=by omega
       have HAL:=Lib.hid hal
       have HLV:=Lib.hid hlv;have HTV:=Lib.hid htv
       clear hal hJa hlv htv r0 r1 hcb
       gi_wp2
       refine hR.mono ?_
       rintro e W5 (⟨rfl,hJ5,hk5⟩|⟨rfl,hJx5⟩)
       ·have HJ5:=Lib.hid hJ5
        have HT5:=Lib.hid (HTA.out.keep hk5)
        clear hJ5 hk5 hR hy
        gi_wp2
        refine⟨⟨k+1,by omega,by go_num,?_,HT5⟩,by simp [intOf];omega⟩
        refine Lib.hid ?_
        rw [List.take_succ_eq_append_getElem hkx,List.map_append,List.map_singleton,<-HTV.out]
        exact HJ5.out
       ·gi_wp2
        refine bodyPost_ret (results_none rfl _ _ _) rfl ?_
        exact⟨⟨_,rfl⟩,.inr ⟨_,trivial,hJx5⟩⟩
      ·obtain rfl:k=m:=by omega
       gi_wp2
       go_end0
       refine⟨⟨_,rfl⟩,.inl ⟨_,HTG.out.symm,?_⟩⟩
       have:=HJk.out
       rw [HM.out,List.take_length]at this
       exact this
    ·gi_wp2
     refine bodyPost_ret (results_none rfl _ _ _) rfl ?_
     exact⟨⟨_,rfl⟩,.inr ⟨_,trivial,hJx3⟩⟩
   ·have hcat:followsV op=true:=by
     unfold followsV leavesV
     simp;omega
    obtain⟨fn,tmps,assign,body,hy,hR⟩:=hY [] ((i:Int)+1) W h0 (by decide)
    by_cases hC:op=9\/op=10\/op=11\/op=13\/op=30\/op=31\/op=32\/op=33\/op=34\/op=37\/op=40
    ·have HG:Hid (targetsV i x= [(i:Int)+1,jt]):=Lib.hid (by
      rw [HTG.out,if_pos hcat,if_pos (by unfold toB;rcases hC with h|h|h|h|h|h|h|h|h|h|h<;>rw [h]<;>decide),if_neg hD];rfl)
     clear HTG hcat hA hB hD
     rcases hC with rfl|rfl|rfl|rfl|rfl|rfl|rfl|rfl|rfl|rfl|rfl
     all_goals
      as_aux_lemma=>
      gi_wp2
      refine hR.mono ?_
      rintro e W3 (⟨rfl,hJ3,hk3⟩|⟨rfl,hJx3⟩)
      ·have ht3:=HT.out.keep hk3
       obtain⟨d0,d1,d2,d3⟩:=ht3.cells
       rw [<-HTO.out]at d2
       have HT3:=Lib.hid ht3
       clear hy hR hk3 ht3 a0 a1 a2 a3 h0 d1 d3
       obtain⟨fn,tmps,assign,body,hy,hR⟩:=hY _ jt W3 hJ3 (by simp)
       gi_wp2
       refine hR.mono ?_
       rintro e W5 (⟨rfl,hJ5,hk5⟩|⟨rfl,hJx5⟩)
       ·obtain⟨e0,e1,e2,e3⟩:=(HT3.out.keep hk5).cells
        rw [<-HOP.out]at e1
        gi_wp2
        refine bodyPost_ret (results_none rfl _ _ _) rfl ?_
        exact⟨⟨_,rfl⟩,.inl ⟨_,HG.out.symm,hJ5⟩⟩
       ·gi_wp2
        refine bodyPost_ret (results_none rfl _ _ _) rfl ?_
        exact⟨⟨_,rfl⟩,.inr ⟨_,trivial,hJx5⟩⟩
      ·gi_wp2
       any_goals (exfalso;exact undef_bool (by assumption))
       refine⟨fun _ h=>(by cases h),?_⟩;gi_wp2
       refine bodyPost_ret (results_none rfl _ _ _) rfl ?_
       exact⟨⟨_,rfl⟩,.inr ⟨_,trivial,hJx3⟩⟩
    ·have hto:toB op=false:=by
      unfold toB
      simp;omega
     have HG:Hid (targetsV i x= [(i:Int)+1]):=Lib.hid (by rw [HTG.out,if_pos hcat,if_neg (by rw [hto];decide),if_neg hD];rfl)
     obtain⟨t1,t2,t3,t4,t5,t6,t7,t8,t9,t10,t11,t12,t13,t14,t15,t16,t17,t18,t19,t20⟩:(op==17)=false/\(op==19)=false/\(op==21)=false/\(op==23)=false/\(op==26)=false/\(op==27)=false/\(op==8)=false/\(op==39)=false/\(op==12)=false/\(op==9)=false/\(op==10)=false/\(op==11)=false/\(op==13)=false/\(op==30)=false/\(op==31)=false/\(op==32)=false/\(op==33)=false/\(op==34)=false/\(op==37)=false/\(op==40)=false:=by
      simp only [beq_eq_false_iff_ne];omega
     have t21 : (op != 12) = true := by simpa using hD
     clear HTG hcat hto hA hB hC hD
     gi_wp2
     refine hR.mono ?_
     rintro e W3 (⟨rfl,hJ3,hk3⟩|⟨rfl,hJx3⟩)
     ·obtain⟨d0,d1,d2,d3⟩:=(HT.out.keep hk3).cells
      rw [<-HOP.out]at d1
      gi_wp2
      refine⟨fun _ h=>(by cases h),?_⟩;gi_wp2
      refine bodyPost_ret (results_none rfl _ _ _) rfl ?_
      exact⟨⟨_,rfl⟩,.inl ⟨_,HG.out.symm,hJ3⟩⟩
     ·gi_wp2
      any_goals (exfalso;exact undef_bool (by assumption))
      refine⟨fun _ h=>(by cases h),?_⟩;gi_wp2
      refine bodyPost_ret (results_none rfl _ _ _) rfl ?_
      exact⟨⟨_,rfl⟩,.inr ⟨_,trivial,hJx3⟩⟩
end Go.Proofs.YtponljdhfoipjaaGreatDoor
