import Derived.Test.YtponljdhfoipjaaGreatDoorW01
namespace Go.Proofs.YtponljdhfoipjaaGreatDoor
open Go.RowKit
set_option linter.unusedVariables false
set_option linter.unusedSimpArgs false
set_option maxRecDepth 100000
set_option maxHeartbeats 0
open Go.RowKit Go.Maps Go.WideMaps
set_option maxRecDepth 100000
def heldO (v:Value):Option (DataW Value × List MemPlace):=some (.held v,[])
def putO (t:List UInt8->Option Value) (k:List UInt8) (v:Value):List UInt8->Option Value:=fun x=>if x=k then some v else t x
def modV (c o:Option Addr) (g:Int):Value:=.agg #[.pointer c,.pointer o,.int .i64 g]
def MapO (w:World) (M n:Nat) (t:List UInt8->Option Value):Prop:=
 ∃D:DataW Value,w.ownsMap Tryz.prog 9 heldO M n D/\ ∀k:List UInt8,D.atKey (.string k) (.held (modV none none 0))= .held ((t k).getD (modV none none 0))/\Maps.has D (.string k)=(t k).isSome
theorem isKeyO (k:List UInt8):WideAt.IsKeyLit (.string k):=by unfold WideAt.IsKeyLit;simp
theorem MapO.lt {w:World} {M n:Nat} {t:List UInt8->Option Value} (h:MapO w M n t):M<w.heap.size:=by obtain⟨D,h,_⟩:=h;exact h.lt
theorem MapO.grown {w w':World} {M n:Nat} {t:List UInt8->Option Value} {row:Option Nat} (h:MapO w M n t) (hg:w.grownBy w' row) (hne:some M≠row):MapO w' M n t:=by obtain⟨D,h,h2⟩:=h;exact⟨D,h.kept hg hne,h2⟩
theorem MapO.below {w w':World} {M n:Nat} {t:List UInt8->Option Value} (h:MapO w M n t) (hb:Below w.heap.size w w'):MapO w' M n t:=
 h.grown (row:=none) ⟨hb.os,hb.tape,hb.output,hb.size,fun k hk _=>hb.block k hk⟩ (by simp)
theorem MapO.made (w:World):MapO (w.alloc (.map #[] 0)) w.heap.size 0 (fun _=>none):=⟨_,World.ownsMap_made _ _ _ _,fun k=>⟨rfl,rfl⟩⟩
theorem MapO.put {w':World} {M m:Nat} {t:List UInt8->Option Value} {D:DataW Value} (hD:IsMap D) (h2: ∀k:List UInt8,D.atKey (.string k) (.held (modV none none 0))= .held ((t k).getD (modV none none 0))/\Maps.has D (.string k)=(t k).isSome) (x:List UInt8) (v:Value) (h:w'.ownsMap Tryz.prog 9 heldO M m (D.put (.string x) (.held v))):MapO w' M m (putO t x v):=by
 refine⟨_,h,fun k=>?_⟩
 unfold putO
 by_cases e:k=x
 ·rw [if_pos e,e,atKey_put_same hD (isKeyO x),has_put_same hD (isKeyO x)]
  exact⟨rfl,rfl⟩
 ·have hne:(Lit.string k)≠ .string x:=by intro h2;injection h2 with h2;exact e h2
  rw [if_neg e,atKey_put_other hne,has_put_other hne];exact h2 k
theorem keyO (s:ByteArray) (h:s.size<=maxLen):keyOf Tryz.prog 9 (.string s)=some (.string s.data.toList):=keyOf_string_mk Tryz.underlying9 h
theorem strLawO:Keyed Tryz.prog 9:=string_keyed Tryz.underlying9
theorem zeroO (w:World):(zeroValue 64).run Tryz.prog w= .ok (modV none none 0) w:=by kernel_rfl
theorem MapO.run_ok {w:World} {M n:Nat} {t:List UInt8->Option Value} (h:MapO w M n t) (x:ByteArray) (hs:x.size<=maxLen) {v:Value} {b:Bool} (hv:(t x.data.toList).getD (modV none none 0)=v) (hb:(t x.data.toList).isSome=b):
  (Instr.lookup 56 (.map (some M)) (.string x) true).run Tryz.prog w= .ok (.tuple #[v,.bool b]) w:=by
 obtain⟨D,hown,hD⟩:=h
 obtain⟨v',ps,hrun,hv'⟩:=hown.look_ok strLawO Tryz.underlying56 (zeroO w) (zd:=.held (modV none none 0)) (zp:=[]) rfl (keyO x hs)
 have e:v'=v:=by
  have h:=hv'
  unfold heldO at h
  rw [(hD _).1,hv]at h
  injection h with h
  injection h with h _
  injection h with h
 rw [hrun,e,(hD _).2,hb]
variable {w:World} {ops:Array Oper} {rest:List Oper} {o:Oper} {a:Act} {Q:Exit->Act->World->Prop}
theorem wpList_look_O (hg:o.guard=none) (m xo:Operand) (hop:o.op=Op.lookup 56 m xo false) {M n:Nat} {t:List UInt8->Option Value} (hm:a.eval m= .map (some M)) (hM:MapO w M n t) (x:ByteArray) (hx:a.eval xo= .string x) (hs:x.size<=maxLen) (v:Value) (hv:(t x.data.toList).getD (modV none none 0)=v)
  (hK:wpList Tryz.prog ops Q rest (a.put o.dst v) w):wpList Tryz.prog ops Q (o::rest) a w:=by
 obtain⟨D,hown,hD⟩:=hM
 refine wpList_plain hg fun K' hK'=>?_
 obtain⟨v',ps,hrun,hv'⟩:=hown.lookup strLawO Tryz.underlying56 (zeroO w) (zd:=.held (modV none none 0)) (zp:=[]) rfl (keyO x hs)
 have e:v'=v:=by
  have h:=hv'
  unfold heldO at h
  rw [(hD _).1,hv]at h
  injection h with h
  injection h with h _
  injection h with h
 subst e
 unfold Oper.wp
 simp [execOp,hop,hm,hx,hrun,Result.andThen]
 exact hK' _ _ hK
def rowT:List (Int × Int × Int):=[(0,0,0),(3,1,1),(131,0,255),(131,2,2),(135,0,200),(7,1,1),(3,1,1),(3,1,1),(64,0,0),(70,1,1),(66,1,1),(66,2,2),(82,1,1),(203,0,255),(139,0,3),(12,0,0),(4,0,0),(4,0,0),(6,2,2),(6,2,2),(6,1,1),(6,1,1),(2,2,3),(2,2,3),(4,0,0),(0,0,0),(0,0,0),(2,2,2),(64,0,0),(0,0,0),(66,1,1),(199,1,1),(199,1,1),(197,0,0),(64,0,0),(161,0,0),(2,0,1),(64,0,0),(0,0,0),(64,0,0),(64,0,0)]
def RowsAt (w:World):Prop:=0<w.heap.size/\ ∀k (h:k<41),w.cell? ⟨0,k*3,none⟩=some (.int .i64 (rowT[k]'h).1)/\w.cell? ⟨0,k*3+1,none⟩=some (.int .i64 (rowT[k]'h).2.1)/\w.cell? ⟨0,k*3+2,none⟩=some (.int .i64 (rowT[k]'h).2.2)
theorem RowsAt.below {w w':World} (h:RowsAt w) (hb:Below w.heap.size w w'):RowsAt w':=
 ⟨Nat.lt_of_lt_of_le h.1 hb.size,fun k hk=>by
  obtain⟨a,b,c⟩:=h.2 k hk
  exact⟨(hb.cell (p:=⟨0,k*3,none⟩) h.1).trans a,(hb.cell (p:=⟨0,k*3+1,none⟩) h.1).trans b,(hb.cell (p:=⟨0,k*3+2,none⟩) h.1).trans c⟩⟩
theorem rowOf_yes (k:Nat) (h1:1<=k) (h2:k<41) (w:World) (hr:RowsAt w):
  Calls Tryz.prog 82 #[.int .i64 k] w fun e w'=>e= .returned (.tuple #[.agg #[.int .i64 (rowT[k]'h2).1,.int .i64 (rowT[k]'h2).2.1,.int .i64 (rowT[k]'h2).2.2],.bool true])/\Below w.heap.size w w':=by
 obtain⟨c0,c1,c2⟩:=hr.2 k h2
 have hlt:=hr.1
 generalize rowT[k]'h2=x at *
 obtain⟨x0,x1,x2⟩:=x
 simp only at c0 c1 c2
 go_enter Tryz.func82,Tryz.ntmps82
 go_wp2
 refine bodyPost_ret (results_row_tmp rfl _ _ _ w.heap.size _ _ _ _ rfl (heap_alloc_new _ _) Tryz.underlying170 (by kernel_rfl)) rfl ?_
 exact⟨rfl,zzE _ _⟩
theorem rowOf_no (op:Int) (h: ¬(1<=op/\op<=40)) (w:World):
  Calls Tryz.prog 82 #[.int .i64 op] w fun e w'=>e= .returned (.tuple #[.agg #[.int .i64 0,.int .i64 0,.int .i64 0],.bool false])/\Below w.heap.size w w':=by
 by_cases h1:op<1
 ·go_enter Tryz.func82,Tryz.ntmps82
  go_wp2
  refine bodyPost_ret (results_row_tmp rfl _ _ _ w.heap.size _ _ _ _ rfl (heap_alloc_new _ _) Tryz.underlying170 (by kernel_rfl)) rfl ?_
  exact⟨rfl,zzE _ _⟩
 ·have h2:40<op:=by omega
  go_enter Tryz.func82,Tryz.ntmps82
  go_wp2
  refine bodyPost_ret (results_row_tmp rfl _ _ _ w.heap.size _ _ _ _ rfl (heap_alloc_new _ _) Tryz.underlying170 (by kernel_rfl)) rfl ?_
  exact⟨rfl,zzE _ _⟩
def hasB (h f:Nat):Bool:=decide (h&&&f≠0)
theorem and_i64 (a b:Nat) (ha:a<9223372036854775808) (hb:b<9223372036854775808):bits .and .i64 (a:Int) (b:Int)=((a&&&b:Nat):Int):=by
 have hx:a&&&b<2^63:=Nat.and_lt_two_pow _ (by omega)
 have h1:(BitVec.ofInt 64 (a:Int)).toNat=a:=by
  rw [BitVec.ofInt_natCast,BitVec.toNat_ofNat];exact Nat.mod_eq_of_lt (by omega)
 have h2:(BitVec.ofInt 64 (b:Int)).toNat=b:=by
  rw [BitVec.ofInt_natCast,BitVec.toNat_ofNat];exact Nat.mod_eq_of_lt (by omega)
 show IntKind.i64.wrap ((BitVec.ofInt 64 (a:Int)&&&BitVec.ofInt 64 (b:Int)).toNat:Int)=_
 rw [BitVec.toNat_and,h1,h2,IntKind.wrap_i64]
 omega
theorem has_any (h f:Nat) (z:Int) (hz:z=f) (C:Nat) (w:World) (hc:w.cell? ⟨C,0,none⟩=some (.int .i64 h)) (h1:h<1000) (h2:f<1000):
  Calls Tryz.prog 117 #[.int .i64 z,.pointer (some ⟨C,0,none⟩)] w fun e w'=>e= .returned (.bool (hasB h f))/\w=w':=by
 subst hz
 have ha:=and_i64 h f (by omega) (by omega)
 have E:Hid ((((h&&&f:Nat):Int)!=0)=hasB h f):=Lib.hid (by
  unfold hasB
  by_cases c:h&&&f=0
  ·rw [c];rfl
  ·rw [decide_eq_true c];rw [bne_iff_ne];omega)
 generalize h&&&f=x at *
 go_enter Tryz.func117,Tryz.ntmps117
 go_wp2
 go_ret
 exact⟨retb E.out,rfl⟩
structure IBox (w:World) (b o:Nat) (x:RIns) (so co go:Option Addr) (sc cc gc:Nat):Prop where
 lt:b<w.heap.size
 c0:w.cell? ⟨b,o,none⟩=some (.int .i64 x.op)
 c1:w.cell? ⟨b,o+1,none⟩=some (.int .i64 x.dst.kind)
 c2:w.cell? ⟨b,o+2,none⟩=some (.int .i64 x.dst.n)
 c3:w.cell? ⟨b,o+3,none⟩=some (.slice so x.src.length sc)
 c4:w.cell? ⟨b,o+4,none⟩=some (.int .i64 x.to)
 c5:w.cell? ⟨b,o+5,none⟩=some (.int .i64 x.n)
 c6:w.cell? ⟨b,o+6,none⟩=some (.int .i64 x.live)
 c7:w.cell? ⟨b,o+7,none⟩=some (.string x.name)
 c8:w.cell? ⟨b,o+8,none⟩=some (.slice co x.cases.length cc)
 c9:w.cell? ⟨b,o+9,none⟩=some (.slice go x.segs.length gc)
 src:SlAt w 2 ArgR so x.src
 cases:SlAt w 2 CaseR co x.cases
 segs:SlAt w 6 SegR go x.segs
 rop:I64 x.op
 rdk:I64 x.dst.kind
 rdn:I64 x.dst.n
 rsrc:x.src.length<=9223372036854775807
 rto:I64 x.to
 rn:I64 x.n
 rlive:I64 x.live
 rname:x.name.size<=9223372036854775807
 rcases:x.cases.length<=9223372036854775807
 rsegs:x.segs.length<=9223372036854775807
theorem IBox.below {w w':World} {b o:Nat} {x:RIns} {so co go:zzA} {sc cc gc:Nat} (h:IBox w b o x so co go sc cc gc) (hb:Below w.heap.size w w'):IBox w' b o x so co go sc cc gc:=
 ⟨Nat.lt_of_lt_of_le h.lt hb.size,(hb.cell (p:=⟨b,o,none⟩) h.lt).trans h.c0,(hb.cell (p:=⟨b,o+1,none⟩) h.lt).trans h.c1,(hb.cell (p:=⟨b,o+2,none⟩) h.lt).trans h.c2,(hb.cell (p:=⟨b,o+3,none⟩) h.lt).trans h.c3,(hb.cell (p:=⟨b,o+4,none⟩) h.lt).trans h.c4,
  (hb.cell (p:=⟨b,o+5,none⟩) h.lt).trans h.c5,(hb.cell (p:=⟨b,o+6,none⟩) h.lt).trans h.c6,(hb.cell (p:=⟨b,o+7,none⟩) h.lt).trans h.c7,(hb.cell (p:=⟨b,o+8,none⟩) h.lt).trans h.c8,(hb.cell (p:=⟨b,o+9,none⟩) h.lt).trans h.c9,
  h.src.mono hb fun _ _ h=>h,h.cases.mono hb fun _ _ h=>h,h.segs.mono hb fun _ _ h=>h,h.rop,h.rdk,h.rdn,h.rsrc,h.rto,h.rn,h.rlive,h.rname,h.rcases,h.rsegs⟩
theorem ibox_of {w:World} {ao:zzA} {l:List RIns} (h:SlAt w 10 (InsR w) ao l) {k:Nat} (hk:k<l.length): ∃b off so co go sc cc gc,ao=some ⟨b,off,none⟩/\IBox w b (off+k*10) l[k] so co go sc cc gc:=by
 obtain⟨b,off,so,sc,co,cc,go,gc,e,hb,c0,c1,c2,c3,c4,c5,c6,c7,c8,c9,s1,s2,s3,r1,r2,r3,r4,r5,r6,r7,r8,r9,r10⟩:=h.ins hk
 exact⟨b,off,so,co,go,sc,cc,gc,e,hb,c0,c1,c2,c3,c4,c5,c6,c7,c8,c9,s1,s2,s3,r1,r2,r3,r4,r5,r6,r7,r8,r9,r10⟩
def dstB (nl:Nat) (x:RIns) (h:Nat):Bool:=if hasB h 1=true then !decide (x.dst.kind=3)&&opdB nl x.dst else decide (x.dst.kind=0)&&decide (x.dst.n=0)
def fieldsB (nl:Nat) (x:RIns) (h lo hi:Nat):Bool:=
 dstB nl x h&&(x.src.all (opdB nl)&&(wi x.src.length lo hi&&(wi x.live 0 256&&((hasB h 4||x.n==0)&&((hasB h 8||x.name.toList.isEmpty)&&((hasB h 64||x.to==0)&&((hasB h 128||x.live==0)&&((hasB h 16||x.cases.length==0)&&(hasB h 32||x.segs.length==0)))))))))
theorem fields_any (B:Nat) (u:RUnit) (lo' fo go' co':zzA) (lc fc gc' cc':Nat) (b o:Nat) (x:RIns) (so co go:zzA) (sc cc gc:Nat) (h lo hi:Nat) (w:World) (hu:UBox w B u lo' fo go' co' lc fc gc' cc') (hl:u.lits.length<=9223372036854775807) (hx:IBox w b o x so co go sc cc gc) (h1:h<1000) (h2:lo<1000) (h3:hi<1000):
  Calls Tryz.prog 83 #[.pointer (some ⟨B,0,none⟩),.pointer (some ⟨b,o,none⟩),.agg #[.int .i64 h,.int .i64 lo,.int .i64 hi]] w fun e w'=>e= .returned (.bool (fieldsB u.lits.length x h lo hi))/\Below w.heap.size w w':=by
 have hbe:Below w.heap.size w (w.alloc (.cells #[.int .i64 h,.int .i64 lo,.int .i64 hi] 170)):=zzE _ _
 have HU:=Lib.hid (hu.below hbe);have HX:=Lib.hid (hx.below hbe)
 have hlt:=hx.lt
 have hC:(w.alloc (.cells #[.int .i64 h,.int .i64 lo,.int .i64 hi] 170)).heap[w.heap.size]?=some (.cells #[.int .i64 h,.int .i64 lo,.int .i64 hi] 170 (0,0)):=heap_alloc_new _ _
 clear hu hx
 go_enter Tryz.func83,Tryz.ntmps83
 go_wp2_with fail
 generalize w.alloc (.cells #[.int .i64 h,.int .i64 lo,.int .i64 hi] 170)=Wa at *
 have HBA:=Lib.hid hbe
 generalize hCC:w.heap.size=C at hC ⊢
 have hc0:Wa.cell? ⟨C,0,none⟩=some (.int .i64 h):=by rw [cell_of_row _ _ _ _ _ _ hC];rfl
 have i1:=HX.out.c1;have i2:=HX.out.c2;have i3:=HX.out.c3
 have hs3:=HX.out.rsrc
 refine(has_any h 1 _ rfl C _ hc0 (by omega) (by omega)).mono ?_
 rintro e w' ⟨rfl,rfl⟩
 have HD1:Hid (hasB h 1=hasB h 1):=Lib.hid rfl
 generalize hq1:hasB h 1=q1 at *
 have HQ1:=Lib.hid hq1;clear hq1
 go_upto_if 12 with(fail)
 go_cut [] (fun wx=>Hid (dstB u.lits.length x h=true)/\Below Wa.heap.size Wa wx)
 case first=>
  cases q1 with
  |true=>
   cases hd2:decide (x.dst.kind=3)with
   |true=>
    have E:Hid (fieldsB u.lits.length x h lo hi=false):=Lib.hid (by unfold fieldsB dstB;rw [HQ1.out,hd2];rfl)
    have hk:(x.dst.kind==3)=true:=by rw [of_decide_eq_true hd2];rfl
    clear hd2
    go_wp2_with fail
    go_ret
    exact⟨retb E.out.symm,hbe⟩
   |false=>
    have hk:(x.dst.kind==3)=false:=by rw [beq_eq_false_iff_ne];exact of_decide_eq_false hd2
    have hop:=operand_any B u lo' fo go' co' lc fc gc' cc' x.dst _ HU.out hl ⟨HX.out.rdk,HX.out.rdn⟩
    cases hq:opdB u.lits.length x.dst with
    |false=>
     have E:Hid (fieldsB u.lits.length x h lo hi=false):=Lib.hid (by unfold fieldsB dstB;rw [HQ1.out,hd2,hq];rfl)
     rw [hq]at hop
     clear hd2 hq
     go_wp2_with fail
     refine hop.mono ?_
     rintro e w5 ⟨rfl,hb5⟩
     go_wp2_with fail
     go_ret
     exact⟨retb E.out.symm,hbe.trans (hb5.mono hbe.size)⟩
    |true=>
     have HDST:Hid (dstB u.lits.length x h=true):=Lib.hid (by unfold dstB;rw [HQ1.out,hd2,hq];rfl)
     rw [hq]at hop
     clear hd2 hq
     go_wp2_with fail
     refine hop.mono ?_
     rintro e w5 ⟨rfl,hB0⟩
     go_wp2_with fail
     go_meet
     case rel=>exact⟨HDST,hB0⟩
  |false=>
   by_cases z1:x.dst.kind=0
   ·have y1:(x.dst.kind==0)=true:=by rw [z1];rfl
    by_cases z2:x.dst.n=0
    ·have y2:(x.dst.n==0)=true:=by rw [z2];rfl
     have HDST:Hid (dstB u.lits.length x h=true):=Lib.hid (by unfold dstB;rw [HQ1.out,decide_eq_true z1,decide_eq_true z2];rfl)
     clear z1 z2
     go_wp2_with fail
     go_meet
     case rel=>exact⟨HDST,Below.refl _ _⟩
    ·have y2:(x.dst.n==0)=false:=beq_eq_false_iff_ne.2 z2
     have E:Hid (fieldsB u.lits.length x h lo hi=false):=Lib.hid (by unfold fieldsB dstB;rw [HQ1.out,decide_eq_true z1,decide_eq_false z2];rfl)
     clear z1 z2
     go_wp2_with fail
     go_ret
     exact⟨retb E.out.symm,hbe⟩
   ·have y1:(x.dst.kind==0)=false:=beq_eq_false_iff_ne.2 z1
    have E:Hid (fieldsB u.lits.length x h lo hi=false):=Lib.hid (by unfold fieldsB dstB;rw [HQ1.out,decide_eq_false z1];rfl)
    clear z1
    go_wp2_with fail
    go_ret
    exact⟨retb E.out.symm,hbe⟩
 case rest=>
  obtain⟨HDST,hB0⟩:=hcut
  rename_i w5
  have i3:=(HX.out.below hB0).c3
  go_wp2_with fail
  go_loopw [39] (fun iv wr=> ∃k:Nat,k<=x.src.length/\iv= .int .i64 k/\Hid (∀j (h:j<x.src.length),j<k->opdB u.lits.length x.src[j]=true)/\Below Wa.heap.size Wa wr) (fun iv _=>x.src.length-(intOf iv).toNat)
  case atStart=>exact⟨0,Nat.zero_le _,rfl,Lib.hid (fun j _ h=>absurd h (Nat.not_lt_zero _)),hB0⟩
  case round=>
   obtain⟨k,hk,rfl,HK,hB⟩:=hrel
   rename World=>wr
   have ib:=HX.out.below hB
   have ub:=HU.out.below hB
   by_cases hlt:k<x.src.length
   ·obtain⟨b2,off,hao,hb2,q0,q1,r0,r1⟩:=ib.src.arg hlt
    subst hao
    have HE:Hid (opdB u.lits.length x.src[k]=false->fieldsB u.lits.length x h lo hi=false):=Lib.hid (fun hf=>by
     unfold fieldsB
     have:x.src.all (opdB u.lits.length)=false:=by
      rw [List.all_eq_false];exact⟨x.src[k],List.getElem_mem hlt,by rw [hf];decide⟩
     rw [this];simp)
    have HN:Hid (opdB u.lits.length x.src[k]=true-> ∀j (h:j<x.src.length),j<k+1->opdB u.lits.length x.src[j]=true):=Lib.hid (fun hne j h hj=>by
     rcases Nat.eq_or_lt_of_le (Nat.le_of_lt_succ hj)with e|e
     ·subst e;exact hne
     ·exact HK.out j h e)
    generalize x.src[k]=a at *
    have hba:=(Below.refl wr.heap.size wr).alloc (Nat.le_refl _) (.cells #[.int .i64 a.kind,.int .i64 a.n] 68)
    have hop:=operand_any B u lo' fo go' co' lc fc gc' cc' a _ (ub.below hba) hl ⟨r0,r1⟩
    clear ib ub
    cases hq:opdB u.lits.length a with
    |false=>
     have E:=Lib.hid (HE.out hq)
     rw [hq]at hop
     clear hq
     go_wp2_with fail
     refine hop.mono ?_
     rintro e w5 ⟨rfl,hb5⟩
     go_wp2_with fail
     go_ret
     exact⟨retb E.out.symm,HBA.out.trans ((hB.trans ((hba.trans (hb5.mono (by simp))).mono hB.size)).mono HBA.out.size)⟩
    |true=>
     have HN2:=Lib.hid (HN.out hq)
     rw [hq]at hop
     clear hq
     go_wp2_with fail
     refine hop.mono ?_
     rintro e w5 ⟨rfl,hb5⟩
     go_wp2_with fail
     go_roundw
     case rel=>exact⟨k+1,by omega,by go_num,HN2,hB.trans ((hba.trans (hb5.mono (by simp))).mono hB.size)⟩
     case measure=>simp [intOf];omega
   ·have HALL:Hid (x.src.all (opdB u.lits.length)=true):=Lib.hid (by
     rw [List.all_eq_true]
     intro a ha
     obtain⟨j,hj,rfl⟩:=List.getElem_of_mem ha
     exact HK.out j hj (by omega))
    have hC2:=(hB.block C (lt_of_row hC)).trans hC
    have hcW:wr.cell? ⟨C,0,none⟩=some (.int .i64 h):=by rw [cell_of_row _ _ _ _ _ _ hC2];rfl
    have hcL:wr.cell? ⟨C,1,none⟩=some (.int .i64 lo):=by rw [cell_of_row _ _ _ _ _ _ hC2];rfl
    have hcH:wr.cell? ⟨C,2,none⟩=some (.int .i64 hi):=by rw [cell_of_row _ _ _ _ _ _ hC2];rfl
    have d3:=ib.c3;have d4:=ib.c4;have d5:=ib.c5;have d6:=ib.c6;have d7:=ib.c7;have d8:=ib.c8;have d9:=ib.c9
    have hsrc:=ib.rsrc
    clear ib ub hC2
    have HF:Hid (fieldsB u.lits.length x h lo hi=(wi x.src.length lo hi&&(wi x.live 0 256&&((hasB h 4||x.n==0)&&((hasB h 8||x.name.toList.isEmpty)&&((hasB h 64||x.to==0)&&((hasB h 128||x.live==0)&&((hasB h 16||x.cases.length==0)&&(hasB h 32||x.segs.length==0))))))))):=Lib.hid (by
     unfold fieldsB;rw [HDST.out,HALL.out];rfl)
    have hBZ:=HBA.out.trans (hB.mono HBA.out.size)
    cases hw1:wi x.src.length lo hi with
    |false=>
     have E:Hid (fieldsB u.lits.length x h lo hi=false):=Lib.hid (by rw [HF.out,hw1];rfl)
     go_wp2_with fail
     go_quiet ((go_at_call 116;exact Calls.quiet_of_same ((within_any _ _ _ _).mono fun _ _ ⟨a,b⟩=>⟨a,b.symm⟩)))
     go_wp2_with fail
     go_ret
     exact⟨retb E.out.symm,below_drewN hBZ _⟩
    |true=>
     go_wp2_with fail
     go_quiet ((go_at_call 116;exact Calls.quiet_of_same ((within_any _ _ _ _).mono fun _ _ ⟨a,b⟩=>⟨a,b.symm⟩)))
     have HBQ:=Lib.hid hBZ
     cases hw2:wi x.live 0 256 with
     |false=>
      have E:Hid (fieldsB u.lits.length x h lo hi=false):=Lib.hid (by rw [HF.out,hw1,hw2];rfl)
      go_wp2_with (go_at_call 116;refine(within_any _ _ _ _).mono ?_;rintro e w1 ⟨rfl,rfl⟩)
      go_ret
      exact⟨retb E.out.symm,below_drewN hBZ _⟩
     |true=>
      have HF2:Hid (fieldsB u.lits.length x h lo hi=((hasB h 4||x.n==0)&&((hasB h 8||x.name.toList.isEmpty)&&((hasB h 64||x.to==0)&&((hasB h 128||x.live==0)&&((hasB h 16||x.cases.length==0)&&(hasB h 32||x.segs.length==0))))))):=Lib.hid (by rw [HF.out,hw1,hw2];rfl)
      clear HF
      have HQ0:=Lib.hid hcW
      go_upto_region 16 with(go_at_call 116;refine(within_any _ _ _ _).mono ?_;rintro e w1 ⟨rfl,rfl⟩)
      have hBW:=below_drewN hBZ nq
      have d3':=Lib.hid d3
      have d4':=Lib.hid d4
      have d5':=Lib.hid d5
      have d6':=Lib.hid d6
      have d7':=Lib.hid d7
      have d8':=Lib.hid d8
      have d9':=Lib.hid d9
      clear d3 d4 d5 d6 d7 d8 d9 hcW hcL hcH
      generalize hWQ:wr.drewN nq=Wq at *
      have hcW:Wq.cell? ⟨C,0,none⟩=some (.int .i64 h):=by rw [<-hWQ];exact HQ0.out
      have d4:=d4'.out
      rw [show wr.cell?=Wq.cell? from by rw [<-hWQ];rfl]at d4
      have d5:=d5'.out
      rw [show wr.cell?=Wq.cell? from by rw [<-hWQ];rfl]at d5
      have d6:=d6'.out
      rw [show wr.cell?=Wq.cell? from by rw [<-hWQ];rfl]at d6
      have d7:=d7'.out
      rw [show wr.cell?=Wq.cell? from by rw [<-hWQ];rfl]at d7
      have d8:=d8'.out
      rw [show wr.cell?=Wq.cell? from by rw [<-hWQ];rfl]at d8
      have d9:=d9'.out
      rw [show wr.cell?=Wq.cell? from by rw [<-hWQ];rfl]at d9
      clear hWQ
      have HG0:Hid (fieldsB u.lits.length x h lo hi=((hasB h 4||x.n==0)&&((hasB h 8||x.name.toList.isEmpty)&&((hasB h 64||x.to==0)&&((hasB h 128||x.live==0)&&((hasB h 16||x.cases.length==0)&&(hasB h 32||x.segs.length==0))))))):=Lib.hid (by rw [HF2.out])
      have hh:=fun wx (hc:wx.cell? ⟨C,0,none⟩=some (.int .i64 h))=>has_any h 4 4 rfl C wx hc (by omega) (by omega)
      go_cut [66] (fun sv wx=> ∃v:Bool,sv= .bool v/\Hid ((hasB h 4||x.n==0)= !v)/\Wq=wx)
      case first=>
       go_wp2_with fail
       refine(hh _ hcW).mono ?_
       rintro e w1 ⟨rfl,rfl⟩
       cases hq4:hasB h 4
       ·go_wp2_with fail
        go_meet
        case rel=>exact⟨_,rfl,Lib.hid (by rw [hq4];first|rfl|(simp;done)|(simp [bne];done)|(rw [Bool.eq_iff_iff];simp;done)|(rw [Bool.eq_iff_iff];simp;omega)),rfl⟩
       ·go_wp2_with fail
        go_meet
        case rel=>exact⟨_,rfl,Lib.hid (by rw [hq4];first|rfl|(simp;done)|(simp [bne];done)|(rw [Bool.eq_iff_iff];simp;done)|(rw [Bool.eq_iff_iff];simp;omega)),rfl⟩
      case rest=>
       obtain⟨v,rfl,HV00,rfl⟩:=hcut
       clear hh
       cases v with
       |true=>
        have E:Hid (fieldsB u.lits.length x h lo hi=false):=Lib.hid (by rw [HG0.out,HV00.out];rfl)
        go_wp2_with fail
        go_ret
        exact⟨retb E.out.symm,hBW⟩
       |false=>
        have HV0:Hid ((hasB h 4||x.n==0)=true):=Lib.hid (by rw [HV00.out];rfl)
        go_upto_region 17 with fail
        have HG1:Hid (fieldsB u.lits.length x h lo hi=((hasB h 8||x.name.toList.isEmpty)&&((hasB h 64||x.to==0)&&((hasB h 128||x.live==0)&&((hasB h 16||x.cases.length==0)&&(hasB h 32||x.segs.length==0)))))):=Lib.hid (by rw [HG0.out,HV0.out,Bool.true_and])
        have hh:=fun wx (hc:wx.cell? ⟨C,0,none⟩=some (.int .i64 h))=>has_any h 8 8 rfl C wx hc (by omega) (by omega)
        go_cut [66] (fun sv wx=> ∃v:Bool,sv= .bool v/\Hid ((hasB h 8||x.name.toList.isEmpty)= !v)/\Wq=wx)
        case first=>
         go_wp2_with fail
         refine(hh _ hcW).mono ?_
         rintro e w1 ⟨rfl,rfl⟩
         cases hq4:hasB h 8
         ·go_wp2_with fail
          go_meet
          case rel=>exact⟨_,rfl,Lib.hid (by rw [hq4];first|rfl|(simp;done)|(simp [bne];done)|(rw [Bool.eq_iff_iff];simp;done)|(rw [Bool.eq_iff_iff];simp;omega)),rfl⟩
         ·go_wp2_with fail
          go_meet
          case rel=>exact⟨_,rfl,Lib.hid (by rw [hq4];first|rfl|(simp;done)|(simp [bne];done)|(rw [Bool.eq_iff_iff];simp;done)|(rw [Bool.eq_iff_iff];simp;omega)),rfl⟩
        case rest=>
         obtain⟨v,rfl,HV10,rfl⟩:=hcut
         clear hh
         cases v with
         |true=>
          have E:Hid (fieldsB u.lits.length x h lo hi=false):=Lib.hid (by rw [HG1.out,HV10.out];rfl)
          go_wp2_with fail
          go_ret
          exact⟨retb E.out.symm,hBW⟩
         |false=>
          have HV1:Hid ((hasB h 8||x.name.toList.isEmpty)=true):=Lib.hid (by rw [HV10.out];rfl)
          go_upto_region 18 with fail
          have HG2:Hid (fieldsB u.lits.length x h lo hi=((hasB h 64||x.to==0)&&((hasB h 128||x.live==0)&&((hasB h 16||x.cases.length==0)&&(hasB h 32||x.segs.length==0))))):=Lib.hid (by rw [HG1.out,HV1.out,Bool.true_and])
          have hh:=fun wx (hc:wx.cell? ⟨C,0,none⟩=some (.int .i64 h))=>has_any h 64 64 rfl C wx hc (by omega) (by omega)
          go_cut [66] (fun sv wx=> ∃v:Bool,sv= .bool v/\Hid ((hasB h 64||x.to==0)= !v)/\Wq=wx)
          case first=>
           go_wp2_with fail
           refine(hh _ hcW).mono ?_
           rintro e w1 ⟨rfl,rfl⟩
           cases hq4:hasB h 64
           ·go_wp2_with fail
            go_meet
            case rel=>exact⟨_,rfl,Lib.hid (by rw [hq4];first|rfl|(simp;done)|(simp [bne];done)|(rw [Bool.eq_iff_iff];simp;done)|(rw [Bool.eq_iff_iff];simp;omega)),rfl⟩
           ·go_wp2_with fail
            go_meet
            case rel=>exact⟨_,rfl,Lib.hid (by rw [hq4];first|rfl|(simp;done)|(simp [bne];done)|(rw [Bool.eq_iff_iff];simp;done)|(rw [Bool.eq_iff_iff];simp;omega)),rfl⟩
          case rest=>
           obtain⟨v,rfl,HV20,rfl⟩:=hcut
           clear hh
           cases v with
           |true=>
            have E:Hid (fieldsB u.lits.length x h lo hi=false):=Lib.hid (by rw [HG2.out,HV20.out];rfl)
            go_wp2_with fail
            go_ret
            exact⟨retb E.out.symm,hBW⟩
           |false=>
            have HV2:Hid ((hasB h 64||x.to==0)=true):=Lib.hid (by rw [HV20.out];rfl)
            go_upto_region 19 with fail
            have HG3:Hid (fieldsB u.lits.length x h lo hi=((hasB h 128||x.live==0)&&((hasB h 16||x.cases.length==0)&&(hasB h 32||x.segs.length==0)))):=Lib.hid (by rw [HG2.out,HV2.out,Bool.true_and])
            have hh:=fun wx (hc:wx.cell? ⟨C,0,none⟩=some (.int .i64 h))=>has_any h 128 128 rfl C wx hc (by omega) (by omega)
            go_cut [66] (fun sv wx=> ∃v:Bool,sv= .bool v/\Hid ((hasB h 128||x.live==0)= !v)/\Wq=wx)
            case first=>
             go_wp2_with fail
             refine(hh _ hcW).mono ?_
             rintro e w1 ⟨rfl,rfl⟩
             cases hq4:hasB h 128
             ·go_wp2_with fail
              go_meet
              case rel=>exact⟨_,rfl,Lib.hid (by rw [hq4];first|rfl|(simp;done)|(simp [bne];done)|(rw [Bool.eq_iff_iff];simp;done)|(rw [Bool.eq_iff_iff];simp;omega)),rfl⟩
             ·go_wp2_with fail
              go_meet
              case rel=>exact⟨_,rfl,Lib.hid (by rw [hq4];first|rfl|(simp;done)|(simp [bne];done)|(rw [Bool.eq_iff_iff];simp;done)|(rw [Bool.eq_iff_iff];simp;omega)),rfl⟩
            case rest=>
             obtain⟨v,rfl,HV30,rfl⟩:=hcut
             clear hh
             cases v with
             |true=>
              have E:Hid (fieldsB u.lits.length x h lo hi=false):=Lib.hid (by rw [HG3.out,HV30.out];rfl)
              go_wp2_with fail
              go_ret
              exact⟨retb E.out.symm,hBW⟩
             |false=>
              have HV3:Hid ((hasB h 128||x.live==0)=true):=Lib.hid (by rw [HV30.out];rfl)
              go_upto_region 21 with fail
              have HG4:Hid (fieldsB u.lits.length x h lo hi=((hasB h 16||x.cases.length==0)&&(hasB h 32||x.segs.length==0))):=Lib.hid (by rw [HG3.out,HV3.out,Bool.true_and])
              have hh:=fun wx (hc:wx.cell? ⟨C,0,none⟩=some (.int .i64 h))=>has_any h 16 16 rfl C wx hc (by omega) (by omega)
              go_cut [107] (fun sv wx=> ∃v:Bool,sv= .bool v/\Hid ((hasB h 16||x.cases.length==0)= !v)/\Wq=wx)
              case first=>
               go_wp2_with fail
               refine(hh _ hcW).mono ?_
               rintro e w1 ⟨rfl,rfl⟩
               cases hq4:hasB h 16
               ·go_wp2_with fail
                go_meet
                case rel=>exact⟨_,rfl,Lib.hid (by rw [hq4];first|rfl|(simp;done)|(simp [bne];done)|(rw [Bool.eq_iff_iff];simp;done)|(rw [Bool.eq_iff_iff];simp;omega)),rfl⟩
               ·go_wp2_with fail
                go_meet
                case rel=>exact⟨_,rfl,Lib.hid (by rw [hq4];first|rfl|(simp;done)|(simp [bne];done)|(rw [Bool.eq_iff_iff];simp;done)|(rw [Bool.eq_iff_iff];simp;omega)),rfl⟩
              case rest=>
               obtain⟨v,rfl,HV40,rfl⟩:=hcut
               clear hh
               cases v with
               |true=>
                have E:Hid (fieldsB u.lits.length x h lo hi=false):=Lib.hid (by rw [HG4.out,HV40.out];rfl)
                go_wp2_with fail
                go_ret
                exact⟨retb E.out.symm,hBW⟩
               |false=>
                have HV4:Hid ((hasB h 16||x.cases.length==0)=true):=Lib.hid (by rw [HV40.out];rfl)
                go_upto_region 22 with fail
                have HG5:Hid (fieldsB u.lits.length x h lo hi=(hasB h 32||x.segs.length==0)):=Lib.hid (by rw [HG4.out,HV4.out,Bool.true_and])
                have hh:=fun wx (hc:wx.cell? ⟨C,0,none⟩=some (.int .i64 h))=>has_any h 32 32 rfl C wx hc (by omega) (by omega)
                go_cut [107] (fun sv wx=> ∃v:Bool,sv= .bool v/\Hid ((hasB h 32||x.segs.length==0)= !v)/\Wq=wx)
                case first=>
                 go_wp2_with fail
                 refine(hh _ hcW).mono ?_
                 rintro e w1 ⟨rfl,rfl⟩
                 cases hq4:hasB h 32
                 ·go_wp2_with fail
                  go_meet
                  case rel=>exact⟨_,rfl,Lib.hid (by rw [hq4];first|rfl|(simp;done)|(simp [bne];done)|(rw [Bool.eq_iff_iff];simp;done)|(rw [Bool.eq_iff_iff];simp;omega)),rfl⟩
                 ·go_wp2_with fail
                  go_meet
                  case rel=>exact⟨_,rfl,Lib.hid (by rw [hq4];first|rfl|(simp;done)|(simp [bne];done)|(rw [Bool.eq_iff_iff];simp;done)|(rw [Bool.eq_iff_iff];simp;omega)),rfl⟩
                case rest=>
                 obtain⟨v,rfl,HV50,rfl⟩:=hcut
                 clear hh
                 cases v with
                 |true=>
                  have E:Hid (fieldsB u.lits.length x h lo hi=false):=Lib.hid (by rw [HG5.out,HV50.out];rfl)
                  go_wp2_with fail
                  go_ret
                  exact⟨retb E.out.symm,hBW⟩
                 |false=>
                  have HV5:Hid ((hasB h 32||x.segs.length==0)=true):=Lib.hid (by rw [HV50.out];rfl)
                  have E:Hid (fieldsB u.lits.length x h lo hi=true):=Lib.hid (by rw [HG5.out,HV5.out])
                  go_wp2_with fail
                  go_ret
                  exact⟨retb E.out.symm,hBW⟩
open Go.RowKit Go.Maps Go.WideMaps
theorem sigLaid:laidOutB Tryz.prog=true:=by kernel_rfl
theorem sigLaw:Keyed Tryz.prog 99:=Keyed.of_law (deep_law_laid sigLaid (m:=2) (by omega) (of_decide_eq_true (by kernel_rfl)) (by kernel_rfl) (by rw [Tryz.underlying99]))
theorem zeroBool (w:World):(zeroValue 4).run Tryz.prog w= .ok (.bool false) w:=by kernel_rfl
def sigKey (s:ByteArray) (a:Int):Lit:=.string (keyBytes [.string s.data.toList,.int .i64 a])
theorem sigKeyType:Tryz.prog.keyType 99=true:=by kernel_rfl
theorem sigCells:Tryz.prog.cellsOf 99=2:=by kernel_rfl
theorem strCells1:Tryz.prog.cellsOf 9=1:=by kernel_rfl
theorem intCells1:Tryz.prog.cellsOf 3=1:=by kernel_rfl
theorem sigTypes: ∃m,Tryz.prog.types.size+1=m+1+1:=⟨Tryz.prog.types.size-1,by have:0<Tryz.prog.types.size:=of_decide_eq_true (by kernel_rfl);omega⟩
theorem keyOf_sig {s:ByteArray} {a:Int} (hs:s.size<=maxLen) (ha:I64 a):keyOf Tryz.prog 99 (.agg #[.string s,.int .i64 a])=some (sigKey s a):=by
 have hwf:(Lit.int .i64 a).wf=true:=by
  obtain⟨h1,h2⟩:=ha
  simp [Lit.wf,IntKind.min,IntKind.max,IntKind.bits,IntKind.signed];omega
 unfold keyOf sigKey
 simp only [Tryz.underlying99]
 rw [if_pos (by simp [sigKeyType,Value.formed,Tryz.underlying99,sigCells])]
 obtain⟨m,hm⟩:=sigTypes
 rw [hm]
 unfold Program.keyLits
 simp only [Tryz.underlying99,Value.cells]
 simp [Program.keyLits,Tryz.underlying9,Tryz.underlying3,strCells1,intCells1,hs,hwf]
 exact sigCells.symm
theorem sigKey_inj {s s':ByteArray} {a a':Int} (hs:s.size<=maxLen) (hs':s'.size<=maxLen) (ha:I64 a) (ha':I64 a') (h:sigKey s a=sigKey s' a'):s=s'/\a=a':=by
 have h1:=keyOf_sig hs ha
 have h2:=keyOf_sig hs' ha'
 rw [<-h]at h2
 have h3:=sigLaw.inj h1 h2
 injection h3 with h3
 have h4:=congrArg Array.toList h3
 simp at h4
 exact h4
def SigIs (w:World) (M n:Nat) (S:ByteArray->Int->Bool):Prop:= ∃D:DataW Unit,w.ownsMap Tryz.prog 99 (plainElem Tryz.prog 4) M n D/\ ∀(s:ByteArray) (a:Int),s.size<=maxLen->I64 a->D.atKey (sigKey s a) (.lit (.bool false))= .lit (.bool (S s a))
theorem SigIs.kept {w w':World} {M n:Nat} {S:ByteArray->Int->Bool} (h:SigIs w M n S) (hb:Below w.heap.size w w'):SigIs w' M n S:=by
 obtain⟨D,h1,h2⟩:=h
 exact⟨D,h1.kept (row:=none) ⟨hb.os,hb.tape,hb.output,hb.size,fun k hk _=>hb.block k hk⟩ (by simp),h2⟩
theorem SigIs.lt {w:World} {M n:Nat} {S:ByteArray->Int->Bool} (h:SigIs w M n S):M<w.heap.size:=h.elim fun _ h=>h.1.lt
theorem sig_made (w:World):SigIs (w.alloc (.map #[] 0)) w.heap.size 0 (fun _ _=>false):=⟨_,World.ownsMap_made w _ _ _,fun s a _ _=>rfl⟩
theorem plainElem_bool_inv {P:Program} {e:TypeId} (he:P.underlying e=some .bool) {v:Value} {z:DataW Unit × List MemPlace} (h:plainElem P e v=some z): ∃c,v= .bool c/\z=(.lit (.bool c),[]):=by
 unfold plainElem at h
 rw [he]at h
 cases v<;>simp at h
 exact⟨_,rfl,h.symm⟩
theorem sig_look {w:World} {M n:Nat} {S:ByteArray->Int->Bool} (h:SigIs w M n S) {s:ByteArray} {a:Int} (hs:s.size<=maxLen) (ha:I64 a):
  (Instr.lookup 223 (.map (some M)) (.agg #[.string s,.int .i64 a]) false).run Tryz.prog w= .ok (.bool (S s a)) w:=by
 obtain⟨D,h1,h2⟩:=h
 obtain⟨v,ps,hrun,hv⟩:=h1.lookup sigLaw Tryz.underlying223 (zeroBool w) (plainElem_bool Tryz.underlying4 false) (keyOf_sig hs ha)
 obtain⟨c,rfl,hc⟩:=plainElem_bool_inv Tryz.underlying4 hv
 rw [h2 s a hs ha]at hc
 have e1:(DataW.lit (.bool (S s a)):DataW Unit)= .lit (.bool c):=congrArg Prod.fst hc
 have e2:S s a=c:=by injection e1 with e1;injection e1
 rw [hrun,e2]
theorem sig_put {w w':World} {M n:Nat} {S:ByteArray->Int->Bool} {D:DataW Unit} (h1:w.ownsMap Tryz.prog 99 (plainElem Tryz.prog 4) M n D) (h2: ∀(s:ByteArray) (a:Int),s.size<=maxLen->I64 a->D.atKey (sigKey s a) (.lit (.bool false))= .lit (.bool (S s a)))
  {s:ByteArray} {a:Int} (hs:s.size<=maxLen) (ha:I64 a) (h3:w'.ownsMap Tryz.prog 99 (plainElem Tryz.prog 4) M (n+1) (D.put (sigKey s a) (.lit (.bool true)))):SigIs w' M (n+1) (fun s' a'=>(s.data.toList==s'.data.toList&&a==a')||S s' a'):=by
 refine⟨_,h3,fun s' a' hs' ha'=>?_⟩
 by_cases e:s'=s/\a'=a
 ·obtain⟨rfl,rfl⟩:=e
  rw [atKey_put_same h1.isMap (sigLaw.key (keyOf_sig hs ha))]
  simp
 ·rw [atKey_put_other (fun h=>e (sigKey_inj hs' hs ha' ha h)),h2 s' a' hs' ha']
  have:(s.data.toList==s'.data.toList&&a==a')=false:=by
   cases h:(s.data.toList==s'.data.toList&&a==a')with
   |false=>rfl
   |true=>
    rw [Bool.and_eq_true,beq_iff_eq,beq_iff_eq]at h
    exact absurd ⟨ByteArray.ext (Array.toList_inj.1 h.1.symm),h.2.symm⟩ e
  simp only [this,Bool.false_or]
section
variable {P:Program} {ops:Array Oper} {Q:Exit->Act->World->Prop} {md:Region.Mode}
theorem mem_ready {listed:Array Bool} {i:Nat} {o:Oper} (hi:ops[i]?=some o) (h1:listed.getD i true=false) (h2: ∀e∈o.after,Region.binds md e=true->listed.getD e.on false=true):i∈Region.ready md ops listed:=by
 unfold Region.ready
 refine List.mem_filter.2 ⟨List.mem_range.2 (Array.getElem?_eq_some_iff.1 hi).1,?_⟩
 rw [Bool.and_eq_true,hi]
 refine⟨by rw [h1];rfl,?_⟩
 show o.after.all _=true
 refine Array.all_eq_true_iff_forall_mem.2 fun e he=>?_
 cases hb:Region.binds md e with
 |false=>rfl
 |true=>rw [h2 e he hb];rfl
theorem wpOp_of {i:Nat} {o:Oper} {K:Act->World->Prop} {a:Act} {w:World} (ho:ops[i]?=some o) (hg:o.guard=none) (h:o.wp P a w K Q):wpOp P ops Q i K a w:=by
 unfold wpOp
 rw [ho]
 have hw:Region.wanted o (yielded ops a.tmps)=true:=by simp [Region.wanted,hg]
 simp only [hw,if_true]
 exact .inl h
end
def numberB (nf:Nat) (funs:List RFun) (x:RIns):Bool:=
 if x.op=4 then wi x.n 0 ((funs.length:Int)-1)&&(match funs[x.n.toNat]? with
  |some f=>decide ((x.src.length:Int)=f.free)
  |none=>false)
 else if x.op=5 then wi x.n 0 254 else if x.op=9 then wi x.n 0 255 else if x.op=16\/x.op=17 then wi x.n 0 ((nf:Int)-1)
 else if x.op=15\/x.op=18\/x.op=19\/x.op=20\/x.op=21 then wi x.n 0 16 else if x.op=24 then wi x.n 1 8192 else if x.op=31 then wi x.n 0 3
 else if x.op=32\/x.op=33 then decide (x.n=1)||decide (x.n=8)else true
theorem number_5 (B:Nat) (u:RUnit) (lo' fo go' co':zzA) (lc fc gc' cc':Nat) (b o:Nat) (x:RIns) (so co go:zzA) (sc cc gc:Nat) (w:World) (hu:UBox w B u lo' fo go' co' lc fc gc' cc') (hl:u.funcs.length<=9223372036854775807) (hl2:u.funs.length<=9223372036854775807) (hf:SlAt w 3 FunR go' u.funs) (hx:IBox w b o x so co go sc cc gc) (hop:x.op=5):
  Calls Tryz.prog 84 #[.pointer (some ⟨B,0,none⟩),.pointer (some ⟨b,o,none⟩)] w fun e w'=>e= .returned (.bool (numberB u.funcs.length u.funs x))/\Below w.heap.size w w':=by
 have c0:=hx.c0;have c3:=hx.c3;have c5:=hx.c5
 have b3:=hu.c3;have b4:=hu.c4
 have r1:=hx.rn;have r2:=hx.rsrc
 obtain⟨r1a,r1b⟩:=r1
 have HF:=Lib.hid hf
 clear hu hx hf
 have hw1:=zzV u.funcs.length (by omega)
 have hw2:=zzV u.funs.length (by omega)
 have E:Hid (numberB u.funcs.length u.funs x=wi x.n 0 254):=Lib.hid (by unfold numberB;rw [hop];rfl)
 rw [hop]at c0
 clear hop
 go_enter Tryz.func84,Tryz.ntmps84
 go_wp2_with (go_at_call 116;refine(within_any _ _ _ _).mono ?_;rintro e w1 ⟨rfl,rfl⟩)
 go_ret
 exact⟨retb E.out.symm,Below.refl _ _⟩
theorem number_9 (B:Nat) (u:RUnit) (lo' fo go' co':zzA) (lc fc gc' cc':Nat) (b o:Nat) (x:RIns) (so co go:zzA) (sc cc gc:Nat) (w:World) (hu:UBox w B u lo' fo go' co' lc fc gc' cc') (hl:u.funcs.length<=9223372036854775807) (hl2:u.funs.length<=9223372036854775807) (hf:SlAt w 3 FunR go' u.funs) (hx:IBox w b o x so co go sc cc gc) (hop:x.op=9):
  Calls Tryz.prog 84 #[.pointer (some ⟨B,0,none⟩),.pointer (some ⟨b,o,none⟩)] w fun e w'=>e= .returned (.bool (numberB u.funcs.length u.funs x))/\Below w.heap.size w w':=by
 have c0:=hx.c0;have c3:=hx.c3;have c5:=hx.c5
 have b3:=hu.c3;have b4:=hu.c4
 have r1:=hx.rn;have r2:=hx.rsrc
 obtain⟨r1a,r1b⟩:=r1
 have HF:=Lib.hid hf
 clear hu hx hf
 have hw1:=zzV u.funcs.length (by omega)
 have hw2:=zzV u.funs.length (by omega)
 have E:Hid (numberB u.funcs.length u.funs x=wi x.n 0 255):=Lib.hid (by unfold numberB;rw [hop];rfl)
 rw [hop]at c0
 clear hop
 go_enter Tryz.func84,Tryz.ntmps84
 go_wp2_with (go_at_call 116;refine(within_any _ _ _ _).mono ?_;rintro e w1 ⟨rfl,rfl⟩)
 go_ret
 exact⟨retb E.out.symm,Below.refl _ _⟩
theorem number_15 (B:Nat) (u:RUnit) (lo' fo go' co':zzA) (lc fc gc' cc':Nat) (b o:Nat) (x:RIns) (so co go:zzA) (sc cc gc:Nat) (w:World) (hu:UBox w B u lo' fo go' co' lc fc gc' cc') (hl:u.funcs.length<=9223372036854775807) (hl2:u.funs.length<=9223372036854775807) (hf:SlAt w 3 FunR go' u.funs) (hx:IBox w b o x so co go sc cc gc) (hop:x.op=15):
  Calls Tryz.prog 84 #[.pointer (some ⟨B,0,none⟩),.pointer (some ⟨b,o,none⟩)] w fun e w'=>e= .returned (.bool (numberB u.funcs.length u.funs x))/\Below w.heap.size w w':=by
 have c0:=hx.c0;have c3:=hx.c3;have c5:=hx.c5
 have b3:=hu.c3;have b4:=hu.c4
 have r1:=hx.rn;have r2:=hx.rsrc
 obtain⟨r1a,r1b⟩:=r1
 have HF:=Lib.hid hf
 clear hu hx hf
 have hw1:=zzV u.funcs.length (by omega)
 have hw2:=zzV u.funs.length (by omega)
 have E:Hid (numberB u.funcs.length u.funs x=wi x.n 0 16):=Lib.hid (by unfold numberB;rw [hop];rfl)
 rw [hop]at c0
 clear hop
 go_enter Tryz.func84,Tryz.ntmps84
 go_wp2_with (go_at_call 116;refine(within_any _ _ _ _).mono ?_;rintro e w1 ⟨rfl,rfl⟩)
 go_ret
 exact⟨retb E.out.symm,Below.refl _ _⟩
theorem number_18 (B:Nat) (u:RUnit) (lo' fo go' co':zzA) (lc fc gc' cc':Nat) (b o:Nat) (x:RIns) (so co go:zzA) (sc cc gc:Nat) (w:World) (hu:UBox w B u lo' fo go' co' lc fc gc' cc') (hl:u.funcs.length<=9223372036854775807) (hl2:u.funs.length<=9223372036854775807) (hf:SlAt w 3 FunR go' u.funs) (hx:IBox w b o x so co go sc cc gc) (hop:x.op=18):
  Calls Tryz.prog 84 #[.pointer (some ⟨B,0,none⟩),.pointer (some ⟨b,o,none⟩)] w fun e w'=>e= .returned (.bool (numberB u.funcs.length u.funs x))/\Below w.heap.size w w':=by
 have c0:=hx.c0;have c3:=hx.c3;have c5:=hx.c5
 have b3:=hu.c3;have b4:=hu.c4
 have r1:=hx.rn;have r2:=hx.rsrc
 obtain⟨r1a,r1b⟩:=r1
 have HF:=Lib.hid hf
 clear hu hx hf
 have hw1:=zzV u.funcs.length (by omega)
 have hw2:=zzV u.funs.length (by omega)
 have E:Hid (numberB u.funcs.length u.funs x=wi x.n 0 16):=Lib.hid (by unfold numberB;rw [hop];rfl)
 rw [hop]at c0
 clear hop
 go_enter Tryz.func84,Tryz.ntmps84
 go_wp2_with (go_at_call 116;refine(within_any _ _ _ _).mono ?_;rintro e w1 ⟨rfl,rfl⟩)
 go_ret
 exact⟨retb E.out.symm,Below.refl _ _⟩
theorem number_19 (B:Nat) (u:RUnit) (lo' fo go' co':zzA) (lc fc gc' cc':Nat) (b o:Nat) (x:RIns) (so co go:zzA) (sc cc gc:Nat) (w:World) (hu:UBox w B u lo' fo go' co' lc fc gc' cc') (hl:u.funcs.length<=9223372036854775807) (hl2:u.funs.length<=9223372036854775807) (hf:SlAt w 3 FunR go' u.funs) (hx:IBox w b o x so co go sc cc gc) (hop:x.op=19):
  Calls Tryz.prog 84 #[.pointer (some ⟨B,0,none⟩),.pointer (some ⟨b,o,none⟩)] w fun e w'=>e= .returned (.bool (numberB u.funcs.length u.funs x))/\Below w.heap.size w w':=by
 have c0:=hx.c0;have c3:=hx.c3;have c5:=hx.c5
 have b3:=hu.c3;have b4:=hu.c4
 have r1:=hx.rn;have r2:=hx.rsrc
 obtain⟨r1a,r1b⟩:=r1
 have HF:=Lib.hid hf
 clear hu hx hf
 have hw1:=zzV u.funcs.length (by omega)
 have hw2:=zzV u.funs.length (by omega)
 have E:Hid (numberB u.funcs.length u.funs x=wi x.n 0 16):=Lib.hid (by unfold numberB;rw [hop];rfl)
 rw [hop]at c0
 clear hop
 go_enter Tryz.func84,Tryz.ntmps84
 go_wp2_with (go_at_call 116;refine(within_any _ _ _ _).mono ?_;rintro e w1 ⟨rfl,rfl⟩)
 go_ret
 exact⟨retb E.out.symm,Below.refl _ _⟩
theorem number_20 (B:Nat) (u:RUnit) (lo' fo go' co':zzA) (lc fc gc' cc':Nat) (b o:Nat) (x:RIns) (so co go:zzA) (sc cc gc:Nat) (w:World) (hu:UBox w B u lo' fo go' co' lc fc gc' cc') (hl:u.funcs.length<=9223372036854775807) (hl2:u.funs.length<=9223372036854775807) (hf:SlAt w 3 FunR go' u.funs) (hx:IBox w b o x so co go sc cc gc) (hop:x.op=20):
  Calls Tryz.prog 84 #[.pointer (some ⟨B,0,none⟩),.pointer (some ⟨b,o,none⟩)] w fun e w'=>e= .returned (.bool (numberB u.funcs.length u.funs x))/\Below w.heap.size w w':=by
 have c0:=hx.c0;have c3:=hx.c3;have c5:=hx.c5
 have b3:=hu.c3;have b4:=hu.c4
 have r1:=hx.rn;have r2:=hx.rsrc
 obtain⟨r1a,r1b⟩:=r1
 have HF:=Lib.hid hf
 clear hu hx hf
 have hw1:=zzV u.funcs.length (by omega)
 have hw2:=zzV u.funs.length (by omega)
 have E:Hid (numberB u.funcs.length u.funs x=wi x.n 0 16):=Lib.hid (by unfold numberB;rw [hop];rfl)
 rw [hop]at c0
 clear hop
 go_enter Tryz.func84,Tryz.ntmps84
 go_wp2_with (go_at_call 116;refine(within_any _ _ _ _).mono ?_;rintro e w1 ⟨rfl,rfl⟩)
 go_ret
 exact⟨retb E.out.symm,Below.refl _ _⟩
theorem number_21 (B:Nat) (u:RUnit) (lo' fo go' co':zzA) (lc fc gc' cc':Nat) (b o:Nat) (x:RIns) (so co go:zzA) (sc cc gc:Nat) (w:World) (hu:UBox w B u lo' fo go' co' lc fc gc' cc') (hl:u.funcs.length<=9223372036854775807) (hl2:u.funs.length<=9223372036854775807) (hf:SlAt w 3 FunR go' u.funs) (hx:IBox w b o x so co go sc cc gc) (hop:x.op=21):
  Calls Tryz.prog 84 #[.pointer (some ⟨B,0,none⟩),.pointer (some ⟨b,o,none⟩)] w fun e w'=>e= .returned (.bool (numberB u.funcs.length u.funs x))/\Below w.heap.size w w':=by
 have c0:=hx.c0;have c3:=hx.c3;have c5:=hx.c5
 have b3:=hu.c3;have b4:=hu.c4
 have r1:=hx.rn;have r2:=hx.rsrc
 obtain⟨r1a,r1b⟩:=r1
 have HF:=Lib.hid hf
 clear hu hx hf
 have hw1:=zzV u.funcs.length (by omega)
 have hw2:=zzV u.funs.length (by omega)
 have E:Hid (numberB u.funcs.length u.funs x=wi x.n 0 16):=Lib.hid (by unfold numberB;rw [hop];rfl)
 rw [hop]at c0
 clear hop
 go_enter Tryz.func84,Tryz.ntmps84
 go_wp2_with (go_at_call 116;refine(within_any _ _ _ _).mono ?_;rintro e w1 ⟨rfl,rfl⟩)
 go_ret
 exact⟨retb E.out.symm,Below.refl _ _⟩
theorem number_24 (B:Nat) (u:RUnit) (lo' fo go' co':zzA) (lc fc gc' cc':Nat) (b o:Nat) (x:RIns) (so co go:zzA) (sc cc gc:Nat) (w:World) (hu:UBox w B u lo' fo go' co' lc fc gc' cc') (hl:u.funcs.length<=9223372036854775807) (hl2:u.funs.length<=9223372036854775807) (hf:SlAt w 3 FunR go' u.funs) (hx:IBox w b o x so co go sc cc gc) (hop:x.op=24):
  Calls Tryz.prog 84 #[.pointer (some ⟨B,0,none⟩),.pointer (some ⟨b,o,none⟩)] w fun e w'=>e= .returned (.bool (numberB u.funcs.length u.funs x))/\Below w.heap.size w w':=by
 have c0:=hx.c0;have c3:=hx.c3;have c5:=hx.c5
 have b3:=hu.c3;have b4:=hu.c4
 have r1:=hx.rn;have r2:=hx.rsrc
 obtain⟨r1a,r1b⟩:=r1
 have HF:=Lib.hid hf
 clear hu hx hf
 have hw1:=zzV u.funcs.length (by omega)
 have hw2:=zzV u.funs.length (by omega)
 have E:Hid (numberB u.funcs.length u.funs x=wi x.n 1 8192):=Lib.hid (by unfold numberB;rw [hop];rfl)
 rw [hop]at c0
 clear hop
 go_enter Tryz.func84,Tryz.ntmps84
 go_wp2_with (go_at_call 116;refine(within_any _ _ _ _).mono ?_;rintro e w1 ⟨rfl,rfl⟩)
 go_ret
 exact⟨retb E.out.symm,Below.refl _ _⟩
theorem number_31 (B:Nat) (u:RUnit) (lo' fo go' co':zzA) (lc fc gc' cc':Nat) (b o:Nat) (x:RIns) (so co go:zzA) (sc cc gc:Nat) (w:World) (hu:UBox w B u lo' fo go' co' lc fc gc' cc') (hl:u.funcs.length<=9223372036854775807) (hl2:u.funs.length<=9223372036854775807) (hf:SlAt w 3 FunR go' u.funs) (hx:IBox w b o x so co go sc cc gc) (hop:x.op=31):
  Calls Tryz.prog 84 #[.pointer (some ⟨B,0,none⟩),.pointer (some ⟨b,o,none⟩)] w fun e w'=>e= .returned (.bool (numberB u.funcs.length u.funs x))/\Below w.heap.size w w':=by
 have c0:=hx.c0;have c3:=hx.c3;have c5:=hx.c5
 have b3:=hu.c3;have b4:=hu.c4
 have r1:=hx.rn;have r2:=hx.rsrc
 obtain⟨r1a,r1b⟩:=r1
 have HF:=Lib.hid hf
 clear hu hx hf
 have hw1:=zzV u.funcs.length (by omega)
 have hw2:=zzV u.funs.length (by omega)
 have E:Hid (numberB u.funcs.length u.funs x=wi x.n 0 3):=Lib.hid (by unfold numberB;rw [hop];rfl)
 rw [hop]at c0
 clear hop
 go_enter Tryz.func84,Tryz.ntmps84
 go_wp2_with (go_at_call 116;refine(within_any _ _ _ _).mono ?_;rintro e w1 ⟨rfl,rfl⟩)
 go_ret
 exact⟨retb E.out.symm,Below.refl _ _⟩
theorem number_16 (B:Nat) (u:RUnit) (lo' fo go' co':zzA) (lc fc gc' cc':Nat) (b o:Nat) (x:RIns) (so co go:zzA) (sc cc gc:Nat) (w:World) (hu:UBox w B u lo' fo go' co' lc fc gc' cc') (hl:u.funcs.length<=9223372036854775807) (hl2:u.funs.length<=9223372036854775807) (hf:SlAt w 3 FunR go' u.funs) (hx:IBox w b o x so co go sc cc gc) (hop:x.op=16):
  Calls Tryz.prog 84 #[.pointer (some ⟨B,0,none⟩),.pointer (some ⟨b,o,none⟩)] w fun e w'=>e= .returned (.bool (numberB u.funcs.length u.funs x))/\Below w.heap.size w w':=by
 have c0:=hx.c0;have c3:=hx.c3;have c5:=hx.c5
 have b3:=hu.c3;have b4:=hu.c4
 have r1:=hx.rn;have r2:=hx.rsrc
 obtain⟨r1a,r1b⟩:=r1
 have HF:=Lib.hid hf
 clear hu hx hf
 have hw1:=zzV u.funcs.length (by omega)
 have hw2:=zzV u.funs.length (by omega)
 have E:Hid (numberB u.funcs.length u.funs x=wi x.n 0 ((u.funcs.length:Int)-1)):=Lib.hid (by unfold numberB;rw [hop];rfl)
 rw [hop]at c0
 clear hop
 go_enter Tryz.func84,Tryz.ntmps84
 go_wp2_with fail
 go_quiet ((go_at_call 116;exact Calls.quiet_of_same ((within_any _ _ _ _).mono fun _ _ ⟨a,b⟩=>⟨a,b.symm⟩)))
 go_wp2_with fail
 go_ret
 exact⟨retb E.out.symm,below_drewN (Below.refl _ _) _⟩
theorem number_17 (B:Nat) (u:RUnit) (lo' fo go' co':zzA) (lc fc gc' cc':Nat) (b o:Nat) (x:RIns) (so co go:zzA) (sc cc gc:Nat) (w:World) (hu:UBox w B u lo' fo go' co' lc fc gc' cc') (hl:u.funcs.length<=9223372036854775807) (hl2:u.funs.length<=9223372036854775807) (hf:SlAt w 3 FunR go' u.funs) (hx:IBox w b o x so co go sc cc gc) (hop:x.op=17):
  Calls Tryz.prog 84 #[.pointer (some ⟨B,0,none⟩),.pointer (some ⟨b,o,none⟩)] w fun e w'=>e= .returned (.bool (numberB u.funcs.length u.funs x))/\Below w.heap.size w w':=by
 have c0:=hx.c0;have c3:=hx.c3;have c5:=hx.c5
 have b3:=hu.c3;have b4:=hu.c4
 have r1:=hx.rn;have r2:=hx.rsrc
 obtain⟨r1a,r1b⟩:=r1
 have HF:=Lib.hid hf
 clear hu hx hf
 have hw1:=zzV u.funcs.length (by omega)
 have hw2:=zzV u.funs.length (by omega)
 have E:Hid (numberB u.funcs.length u.funs x=wi x.n 0 ((u.funcs.length:Int)-1)):=Lib.hid (by unfold numberB;rw [hop];rfl)
 rw [hop]at c0
 clear hop
 go_enter Tryz.func84,Tryz.ntmps84
 go_wp2_with fail
 go_quiet ((go_at_call 116;exact Calls.quiet_of_same ((within_any _ _ _ _).mono fun _ _ ⟨a,b⟩=>⟨a,b.symm⟩)))
 go_wp2_with fail
 go_ret
 exact⟨retb E.out.symm,below_drewN (Below.refl _ _) _⟩
theorem number_32 (B:Nat) (u:RUnit) (lo' fo go' co':zzA) (lc fc gc' cc':Nat) (b o:Nat) (x:RIns) (so co go:zzA) (sc cc gc:Nat) (w:World) (hu:UBox w B u lo' fo go' co' lc fc gc' cc') (hl:u.funcs.length<=9223372036854775807) (hl2:u.funs.length<=9223372036854775807) (hf:SlAt w 3 FunR go' u.funs) (hx:IBox w b o x so co go sc cc gc) (hop:x.op=32):
  Calls Tryz.prog 84 #[.pointer (some ⟨B,0,none⟩),.pointer (some ⟨b,o,none⟩)] w fun e w'=>e= .returned (.bool (numberB u.funcs.length u.funs x))/\Below w.heap.size w w':=by
 have c0:=hx.c0;have c3:=hx.c3;have c5:=hx.c5
 have b3:=hu.c3;have b4:=hu.c4
 have r1:=hx.rn;have r2:=hx.rsrc
 obtain⟨r1a,r1b⟩:=r1
 have HF:=Lib.hid hf
 clear hu hx hf
 have hw1:=zzV u.funcs.length (by omega)
 have hw2:=zzV u.funs.length (by omega)
 have E:Hid (numberB u.funcs.length u.funs x=(decide (x.n=1)||decide (x.n=8))):=Lib.hid (by unfold numberB;rw [hop];rfl)
 rw [hop]at c0
 clear hop
 by_cases n1:x.n=1
 ·have t1:(x.n==1)=true:=by rw [n1];rfl
  have E2:Hid (numberB u.funcs.length u.funs x=true):=Lib.hid (by rw [E.out,decide_eq_true n1];rfl)
  clear n1
  go_enter Tryz.func84,Tryz.ntmps84
  go_wp2_with fail
  go_ret
  exact⟨retb E2.out.symm,Below.refl _ _⟩
 ·have t1:(x.n==1)=false:=beq_eq_false_iff_ne.2 n1
  by_cases n8:x.n=8
  ·have t2:(x.n==8)=true:=by rw [n8];rfl
   have E2:Hid (numberB u.funcs.length u.funs x=true):=Lib.hid (by rw [E.out,decide_eq_true n8];simp)
   clear n1 n8
   go_enter Tryz.func84,Tryz.ntmps84
   go_wp2_with fail
   go_ret
   exact⟨retb E2.out.symm,Below.refl _ _⟩
  ·have t2:(x.n==8)=false:=beq_eq_false_iff_ne.2 n8
   have E2:Hid (numberB u.funcs.length u.funs x=false):=Lib.hid (by rw [E.out,decide_eq_false n1,decide_eq_false n8];rfl)
   clear n1 n8
   go_enter Tryz.func84,Tryz.ntmps84
   go_wp2_with fail
   go_ret
   exact⟨retb E2.out.symm,Below.refl _ _⟩
theorem number_33 (B:Nat) (u:RUnit) (lo' fo go' co':zzA) (lc fc gc' cc':Nat) (b o:Nat) (x:RIns) (so co go:zzA) (sc cc gc:Nat) (w:World) (hu:UBox w B u lo' fo go' co' lc fc gc' cc') (hl:u.funcs.length<=9223372036854775807) (hl2:u.funs.length<=9223372036854775807) (hf:SlAt w 3 FunR go' u.funs) (hx:IBox w b o x so co go sc cc gc) (hop:x.op=33):
  Calls Tryz.prog 84 #[.pointer (some ⟨B,0,none⟩),.pointer (some ⟨b,o,none⟩)] w fun e w'=>e= .returned (.bool (numberB u.funcs.length u.funs x))/\Below w.heap.size w w':=by
 have c0:=hx.c0;have c3:=hx.c3;have c5:=hx.c5
 have b3:=hu.c3;have b4:=hu.c4
 have r1:=hx.rn;have r2:=hx.rsrc
 obtain⟨r1a,r1b⟩:=r1
 have HF:=Lib.hid hf
 clear hu hx hf
 have hw1:=zzV u.funcs.length (by omega)
 have hw2:=zzV u.funs.length (by omega)
 have E:Hid (numberB u.funcs.length u.funs x=(decide (x.n=1)||decide (x.n=8))):=Lib.hid (by unfold numberB;rw [hop];rfl)
 rw [hop]at c0
 clear hop
 by_cases n1:x.n=1
 ·have t1:(x.n==1)=true:=by rw [n1];rfl
  have E2:Hid (numberB u.funcs.length u.funs x=true):=Lib.hid (by rw [E.out,decide_eq_true n1];rfl)
  clear n1
  go_enter Tryz.func84,Tryz.ntmps84
  go_wp2_with fail
  go_ret
  exact⟨retb E2.out.symm,Below.refl _ _⟩
 ·have t1:(x.n==1)=false:=beq_eq_false_iff_ne.2 n1
  by_cases n8:x.n=8
  ·have t2:(x.n==8)=true:=by rw [n8];rfl
   have E2:Hid (numberB u.funcs.length u.funs x=true):=Lib.hid (by rw [E.out,decide_eq_true n8];simp)
   clear n1 n8
   go_enter Tryz.func84,Tryz.ntmps84
   go_wp2_with fail
   go_ret
   exact⟨retb E2.out.symm,Below.refl _ _⟩
  ·have t2:(x.n==8)=false:=beq_eq_false_iff_ne.2 n8
   have E2:Hid (numberB u.funcs.length u.funs x=false):=Lib.hid (by rw [E.out,decide_eq_false n1,decide_eq_false n8];rfl)
   clear n1 n8
   go_enter Tryz.func84,Tryz.ntmps84
   go_wp2_with fail
   go_ret
   exact⟨retb E2.out.symm,Below.refl _ _⟩
theorem number_rest (B:Nat) (u:RUnit) (lo' fo go' co':zzA) (lc fc gc' cc':Nat) (b o:Nat) (x:RIns) (so co go:zzA) (sc cc gc:Nat) (w:World) (hu:UBox w B u lo' fo go' co' lc fc gc' cc') (hl:u.funcs.length<=9223372036854775807) (hl2:u.funs.length<=9223372036854775807) (hf:SlAt w 3 FunR go' u.funs) (hx:IBox w b o x so co go sc cc gc) (h5: ¬x.op=5) (h9: ¬x.op=9) (h15: ¬x.op=15) (h18: ¬x.op=18) (h19: ¬x.op=19) (h20: ¬x.op=20) (h21: ¬x.op=21) (h24: ¬x.op=24) (h31: ¬x.op=31) (h16: ¬x.op=16) (h17: ¬x.op=17) (h32: ¬x.op=32) (h33: ¬x.op=33) (h4: ¬x.op=4):
  Calls Tryz.prog 84 #[.pointer (some ⟨B,0,none⟩),.pointer (some ⟨b,o,none⟩)] w fun e w'=>e= .returned (.bool (numberB u.funcs.length u.funs x))/\Below w.heap.size w w':=by
 have c0:=hx.c0;have c3:=hx.c3;have c5:=hx.c5
 have b3:=hu.c3;have b4:=hu.c4
 have r1:=hx.rn;have r2:=hx.rsrc
 obtain⟨r1a,r1b⟩:=r1
 have HF:=Lib.hid hf
 clear hu hx hf
 have hw1:=zzV u.funcs.length (by omega)
 have hw2:=zzV u.funs.length (by omega)
 have E:Hid (numberB u.funcs.length u.funs x=true):=Lib.hid (by unfold numberB;rw [if_neg h4,if_neg h5,if_neg h9,if_neg (by omega),if_neg (by omega),if_neg h24,if_neg h31,if_neg (by omega)])
 have t5:(x.op==5)=false:=beq_eq_false_iff_ne.2 h5
 have t9:(x.op==9)=false:=beq_eq_false_iff_ne.2 h9
 have t15:(x.op==15)=false:=beq_eq_false_iff_ne.2 h15
 have t18:(x.op==18)=false:=beq_eq_false_iff_ne.2 h18
 have t19:(x.op==19)=false:=beq_eq_false_iff_ne.2 h19
 have t20:(x.op==20)=false:=beq_eq_false_iff_ne.2 h20
 have t21:(x.op==21)=false:=beq_eq_false_iff_ne.2 h21
 have t24:(x.op==24)=false:=beq_eq_false_iff_ne.2 h24
 have t31:(x.op==31)=false:=beq_eq_false_iff_ne.2 h31
 have t16:(x.op==16)=false:=beq_eq_false_iff_ne.2 h16
 have t17:(x.op==17)=false:=beq_eq_false_iff_ne.2 h17
 have t32:(x.op==32)=false:=beq_eq_false_iff_ne.2 h32
 have t33:(x.op==33)=false:=beq_eq_false_iff_ne.2 h33
 have t4:(x.op==4)=false:=beq_eq_false_iff_ne.2 h4
 clear h5 h9 h15 h18 h19 h20 h21 h24 h31 h16 h17 h32 h33 h4
 go_enter Tryz.func84,Tryz.ntmps84
 go_wp2_with fail
 go_ret
 exact⟨retb E.out.symm,Below.refl _ _⟩
theorem number_4 (B:Nat) (u:RUnit) (lo' fo go' co':zzA) (lc fc gc' cc':Nat) (b o:Nat) (x:RIns) (so co go:zzA) (sc cc gc:Nat) (w:World) (hu:UBox w B u lo' fo go' co' lc fc gc' cc') (hl:u.funcs.length<=9223372036854775807) (hl2:u.funs.length<=9223372036854775807) (hf:SlAt w 3 FunR go' u.funs) (hx:IBox w b o x so co go sc cc gc) (hop:x.op=4):
  Calls Tryz.prog 84 #[.pointer (some ⟨B,0,none⟩),.pointer (some ⟨b,o,none⟩)] w fun e w'=>e= .returned (.bool (numberB u.funcs.length u.funs x))/\Below w.heap.size w w':=by
 have c0:=hx.c0;have c3:=hx.c3;have c5:=hx.c5
 have b3:=hu.c3;have b4:=hu.c4
 have r1:=hx.rn;have r2:=hx.rsrc
 obtain⟨r1a,r1b⟩:=r1
 have HF:=Lib.hid hf
 clear hu hx hf
 have hw1:=zzV u.funcs.length (by omega)
 have hw2:=zzV u.funs.length (by omega)
 have E:Hid (numberB u.funcs.length u.funs x=(wi x.n 0 ((u.funs.length:Int)-1)&&(match u.funs[x.n.toNat]? with
   |some f=>decide ((x.src.length:Int)=f.free)
   |none=>false))):=Lib.hid (by unfold numberB;rw [hop];rfl)
 rw [hop]at c0
 clear hop
 cases hw:wi x.n 0 ((u.funs.length:Int)-1)with
 |false=>
  have E2:Hid (numberB u.funcs.length u.funs x=false):=Lib.hid (by rw [E.out,hw];rfl)
  have hwr: ∀wx,Calls Tryz.prog 116 #[.int .i64 x.n,.int .i64 0,.int .i64 ((u.funs.length:Int)-1)] wx fun e w'=>e= .returned (.bool false)/\w'=wx:=fun wx=>by
   have:=within_any x.n 0 ((u.funs.length:Int)-1) wx
   rw [hw]at this
   exact this.mono fun _ _ ⟨a,b⟩=>⟨a,b.symm⟩
  clear hw E
  go_enter Tryz.func84,Tryz.ntmps84
  go_wp2_with fail
  go_quiet ((go_at_call 116;exact Calls.quiet_of_same (hwr _)))
  go_wp2_with fail
  go_ret
  exact⟨retb E2.out.symm,below_drewN (Below.refl _ _) _⟩
 |true=>
  have hr:0<=x.n/\x.n<=(u.funs.length:Int)-1:=by
   unfold wi at hw
   rw [Bool.and_eq_true,decide_eq_true_eq,decide_eq_true_eq]at hw
   exact hw
  obtain⟨m,hm⟩:=Int.eq_ofNat_of_zero_le hr.1
  have hml:m<u.funs.length:=by omega
  obtain⟨b2,off,hao,hb2,q0,q1,q2,_,_,_⟩:=HF.out.fn hml
  subst hao
  have E2:Hid (numberB u.funcs.length u.funs x=decide ((x.src.length:Int)=u.funs[m].free)):=Lib.hid (by
   rw [E.out,hw,hm]
   have:u.funs[(((m:Nat):Int)).toNat]?=some u.funs[m]:=by rw [Int.toNat_natCast];exact List.getElem?_eq_getElem hml
   rw [this];rfl)
  have hwr: ∀wx,Calls Tryz.prog 116 #[.int .i64 (m:Int),.int .i64 0,.int .i64 ((u.funs.length:Int)-1)] wx fun e w'=>e= .returned (.bool true)/\w'=wx:=fun wx=>by
   have:=within_any (m:Int) 0 ((u.funs.length:Int)-1) wx
   rw [<-hm,hw]at this
   rw [<-hm]
   exact this.mono fun _ _ ⟨a,b⟩=>⟨a,b.symm⟩
  rw [hm]at c5
  clear hw hr E r1a r1b
  generalize u.funs[m].free=z at *
  generalize x.n=xn at *
  by_cases hz:(x.src.length:Int)=z
  ·have E3:Hid (numberB u.funcs.length u.funs x=true):=Lib.hid (by rw [E2.out,decide_eq_true hz])
   have t:((x.src.length:Int)==z)=true:=by rw [hz];exact beq_self_eq_true _
   clear hz hm
   go_enter Tryz.func84,Tryz.ntmps84
   go_wp2_with fail
   go_quiet ((go_at_call 116;exact Calls.quiet_of_same (hwr _)))
   go_wp2_with fail
   go_ret
   exact⟨retb E3.out.symm,below_drewN (Below.refl _ _) _⟩
  ·have E3:Hid (numberB u.funcs.length u.funs x=false):=Lib.hid (by rw [E2.out,decide_eq_false hz])
   have t:((x.src.length:Int)==z)=false:=beq_eq_false_iff_ne.2 hz
   clear hz hm
   go_enter Tryz.func84,Tryz.ntmps84
   go_wp2_with fail
   go_quiet ((go_at_call 116;exact Calls.quiet_of_same (hwr _)))
   go_wp2_with fail
   go_ret
   exact⟨retb E3.out.symm,below_drewN (Below.refl _ _) _⟩
theorem number_any (B:Nat) (u:RUnit) (lo' fo go' co':zzA) (lc fc gc' cc':Nat) (b o:Nat) (x:RIns) (so co go:zzA) (sc cc gc:Nat) (w:World) (hu:UBox w B u lo' fo go' co' lc fc gc' cc') (hl:u.funcs.length<=9223372036854775807) (hl2:u.funs.length<=9223372036854775807) (hf:SlAt w 3 FunR go' u.funs) (hx:IBox w b o x so co go sc cc gc):
  Calls Tryz.prog 84 #[.pointer (some ⟨B,0,none⟩),.pointer (some ⟨b,o,none⟩)] w fun e w'=>e= .returned (.bool (numberB u.funcs.length u.funs x))/\Below w.heap.size w w':=by
 by_cases h5:x.op=5
 ·exact number_5 B u lo' fo go' co' lc fc gc' cc' b o x so co go sc cc gc w hu hl hl2 hf hx h5
 by_cases h9:x.op=9
 ·exact number_9 B u lo' fo go' co' lc fc gc' cc' b o x so co go sc cc gc w hu hl hl2 hf hx h9
 by_cases h15:x.op=15
 ·exact number_15 B u lo' fo go' co' lc fc gc' cc' b o x so co go sc cc gc w hu hl hl2 hf hx h15
 by_cases h18:x.op=18
 ·exact number_18 B u lo' fo go' co' lc fc gc' cc' b o x so co go sc cc gc w hu hl hl2 hf hx h18
 by_cases h19:x.op=19
 ·exact number_19 B u lo' fo go' co' lc fc gc' cc' b o x so co go sc cc gc w hu hl hl2 hf hx h19
 by_cases h20:x.op=20
 ·exact number_20 B u lo' fo go' co' lc fc gc' cc' b o x so co go sc cc gc w hu hl hl2 hf hx h20
 by_cases h21:x.op=21
 ·exact number_21 B u lo' fo go' co' lc fc gc' cc' b o x so co go sc cc gc w hu hl hl2 hf hx h21
 by_cases h24:x.op=24
 ·exact number_24 B u lo' fo go' co' lc fc gc' cc' b o x so co go sc cc gc w hu hl hl2 hf hx h24
 by_cases h31:x.op=31
 ·exact number_31 B u lo' fo go' co' lc fc gc' cc' b o x so co go sc cc gc w hu hl hl2 hf hx h31
 by_cases h16:x.op=16
 ·exact number_16 B u lo' fo go' co' lc fc gc' cc' b o x so co go sc cc gc w hu hl hl2 hf hx h16
 by_cases h17:x.op=17
 ·exact number_17 B u lo' fo go' co' lc fc gc' cc' b o x so co go sc cc gc w hu hl hl2 hf hx h17
 by_cases h32:x.op=32
 ·exact number_32 B u lo' fo go' co' lc fc gc' cc' b o x so co go sc cc gc w hu hl hl2 hf hx h32
 by_cases h33:x.op=33
 ·exact number_33 B u lo' fo go' co' lc fc gc' cc' b o x so co go sc cc gc w hu hl hl2 hf hx h33
 by_cases h4:x.op=4
 ·exact number_4 B u lo' fo go' co' lc fc gc' cc' b o x so co go sc cc gc w hu hl hl2 hf hx h4
 exact number_rest B u lo' fo go' co' lc fc gc' cc' b o x so co go sc cc gc w hu hl hl2 hf hx h5 h9 h15 h18 h19 h20 h21 h24 h31 h16 h17 h32 h33 h4
theorem operator_any (s:ByteArray) (n:Int) (w:World):Calls Tryz.prog 119 #[.string s,.int .i64 n] w fun e w'=>e= .returned (.bool (operB s n))/\w=w':=by
 cases t0:(s.toList== [45])with
 |true=>
  have E:Hid (operB s n=(n==1||n==2)):=Lib.hid (by unfold operB;rw [t0];rfl)
  cases q1:(n==1)with
  |true=>
   rw [q1]at E
   go_enter Tryz.func119,Tryz.ntmps119
   go_wp2_with fail
   go_ret
   exact⟨retb E.out.symm,rfl⟩
  |false=>
   rw [q1]at E
   go_enter Tryz.func119,Tryz.ntmps119
   go_wp2_with fail
   go_ret
   exact⟨retb E.out.symm,rfl⟩
 |false=>
  cases t1:(s.toList== [98,110,111,116])with
  |true=>
    have E:Hid (operB s n=(n==1)):=Lib.hid (by unfold operB;rw [t0,t1];rfl)
    go_enter Tryz.func119,Tryz.ntmps119
    go_wp2_with fail
    go_ret
    exact⟨retb E.out.symm,rfl⟩
  |false=>
  cases t2:(s.toList== [110,111,116])with
  |true=>
   have E:Hid (operB s n=(n==1)):=Lib.hid (by unfold operB;rw [t0,t1,t2];rfl)
   go_enter Tryz.func119,Tryz.ntmps119
   go_wp2_with fail
   go_ret
   exact⟨retb E.out.symm,rfl⟩
  |false=>
   cases t3:(s.toList== [43])with
   |true=>
     have E:Hid (operB s n=(n==2)):=Lib.hid (by unfold operB opTwo;simp only [List.any_cons,List.any_nil,t0,t1,t2,t3,Bool.false_or,Bool.or_false,Bool.true_or,Bool.or_true,if_true];rfl)
     go_enter Tryz.func119,Tryz.ntmps119
     go_wp2_with fail
     go_ret
     exact⟨retb E.out.symm,rfl⟩
   |false=>
   cases t4:(s.toList== [42])with
   |true=>
    have E:Hid (operB s n=(n==2)):=Lib.hid (by unfold operB opTwo;simp only [List.any_cons,List.any_nil,t0,t1,t2,t3,t4,Bool.false_or,Bool.or_false,Bool.true_or,Bool.or_true,if_true];rfl)
    go_enter Tryz.func119,Tryz.ntmps119
    go_wp2_with fail
    go_ret
    exact⟨retb E.out.symm,rfl⟩
   |false=>
    cases t5:(s.toList== [100,105,118])with
    |true=>
      have E:Hid (operB s n=(n==2)):=Lib.hid (by unfold operB opTwo;simp only [List.any_cons,List.any_nil,t0,t1,t2,t3,t4,t5,Bool.false_or,Bool.or_false,Bool.true_or,Bool.or_true,if_true];rfl)
      go_enter Tryz.func119,Tryz.ntmps119
      go_wp2_with fail
      go_ret
      exact⟨retb E.out.symm,rfl⟩
    |false=>
    cases t6:(s.toList== [114,101,109])with
    |true=>
     have E:Hid (operB s n=(n==2)):=Lib.hid (by unfold operB opTwo;simp only [List.any_cons,List.any_nil,t0,t1,t2,t3,t4,t5,t6,Bool.false_or,Bool.or_false,Bool.true_or,Bool.or_true,if_true];rfl)
     go_enter Tryz.func119,Tryz.ntmps119
     go_wp2_with fail
     go_ret
     exact⟨retb E.out.symm,rfl⟩
    |false=>
     cases t7:(s.toList== [98,97,110,100])with
     |true=>
       have E:Hid (operB s n=(n==2)):=Lib.hid (by unfold operB opTwo;simp only [List.any_cons,List.any_nil,t0,t1,t2,t3,t4,t5,t6,t7,Bool.false_or,Bool.or_false,Bool.true_or,Bool.or_true,if_true];rfl)
       go_enter Tryz.func119,Tryz.ntmps119
       go_wp2_with fail
       go_ret
       exact⟨retb E.out.symm,rfl⟩
     |false=>
     cases t8:(s.toList== [98,111,114])with
     |true=>
      have E:Hid (operB s n=(n==2)):=Lib.hid (by unfold operB opTwo;simp only [List.any_cons,List.any_nil,t0,t1,t2,t3,t4,t5,t6,t7,t8,Bool.false_or,Bool.or_false,Bool.true_or,Bool.or_true,if_true];rfl)
      go_enter Tryz.func119,Tryz.ntmps119
      go_wp2_with fail
      go_ret
      exact⟨retb E.out.symm,rfl⟩
     |false=>
      cases t9:(s.toList== [98,120,111,114])with
      |true=>
        have E:Hid (operB s n=(n==2)):=Lib.hid (by unfold operB opTwo;simp only [List.any_cons,List.any_nil,t0,t1,t2,t3,t4,t5,t6,t7,t8,t9,Bool.false_or,Bool.or_false,Bool.true_or,Bool.or_true,if_true];rfl)
        go_enter Tryz.func119,Tryz.ntmps119
        go_wp2_with fail
        go_ret
        exact⟨retb E.out.symm,rfl⟩
      |false=>
      cases t10:(s.toList== [98,115,108])with
      |true=>
       have E:Hid (operB s n=(n==2)):=Lib.hid (by unfold operB opTwo;simp only [List.any_cons,List.any_nil,t0,t1,t2,t3,t4,t5,t6,t7,t8,t9,t10,Bool.false_or,Bool.or_false,Bool.true_or,Bool.or_true,if_true];rfl)
       go_enter Tryz.func119,Tryz.ntmps119
       go_wp2_with fail
       go_ret
       exact⟨retb E.out.symm,rfl⟩
      |false=>
       cases t11:(s.toList== [98,115,114])with
       |true=>
         have E:Hid (operB s n=(n==2)):=Lib.hid (by unfold operB opTwo;simp only [List.any_cons,List.any_nil,t0,t1,t2,t3,t4,t5,t6,t7,t8,t9,t10,t11,Bool.false_or,Bool.or_false,Bool.true_or,Bool.or_true,if_true];rfl)
         go_enter Tryz.func119,Tryz.ntmps119
         go_wp2_with fail
         go_ret
         exact⟨retb E.out.symm,rfl⟩
       |false=>
       cases t12:(s.toList== [97,110,100])with
       |true=>
        have E:Hid (operB s n=(n==2)):=Lib.hid (by unfold operB opTwo;simp only [List.any_cons,List.any_nil,t0,t1,t2,t3,t4,t5,t6,t7,t8,t9,t10,t11,t12,Bool.false_or,Bool.or_false,Bool.true_or,Bool.or_true,if_true];rfl)
        go_enter Tryz.func119,Tryz.ntmps119
        go_wp2_with fail
        go_ret
        exact⟨retb E.out.symm,rfl⟩
       |false=>
        cases t13:(s.toList== [111,114])with
        |true=>
          have E:Hid (operB s n=(n==2)):=Lib.hid (by unfold operB opTwo;simp only [List.any_cons,List.any_nil,t0,t1,t2,t3,t4,t5,t6,t7,t8,t9,t10,t11,t12,t13,Bool.false_or,Bool.or_false,Bool.true_or,Bool.or_true,if_true];rfl)
          go_enter Tryz.func119,Tryz.ntmps119
          go_wp2_with fail
          go_ret
          exact⟨retb E.out.symm,rfl⟩
        |false=>
        cases t14:(s.toList== [120,111,114])with
        |true=>
         have E:Hid (operB s n=(n==2)):=Lib.hid (by unfold operB opTwo;simp only [List.any_cons,List.any_nil,t0,t1,t2,t3,t4,t5,t6,t7,t8,t9,t10,t11,t12,t13,t14,Bool.false_or,Bool.or_false,Bool.true_or,Bool.or_true,if_true];rfl)
         go_enter Tryz.func119,Tryz.ntmps119
         go_wp2_with fail
         go_ret
         exact⟨retb E.out.symm,rfl⟩
        |false=>
         cases t15:(s.toList== [61,58,61])with
         |true=>
           have E:Hid (operB s n=(n==2)):=Lib.hid (by unfold operB opTwo;simp only [List.any_cons,List.any_nil,t0,t1,t2,t3,t4,t5,t6,t7,t8,t9,t10,t11,t12,t13,t14,t15,Bool.false_or,Bool.or_false,Bool.true_or,Bool.or_true,if_true];rfl)
           go_enter Tryz.func119,Tryz.ntmps119
           go_wp2_with fail
           go_ret
           exact⟨retb E.out.symm,rfl⟩
         |false=>
         cases t16:(s.toList== [61,47,61])with
         |true=>
          have E:Hid (operB s n=(n==2)):=Lib.hid (by unfold operB opTwo;simp only [List.any_cons,List.any_nil,t0,t1,t2,t3,t4,t5,t6,t7,t8,t9,t10,t11,t12,t13,t14,t15,t16,Bool.false_or,Bool.or_false,Bool.true_or,Bool.or_true,if_true];rfl)
          go_enter Tryz.func119,Tryz.ntmps119
          go_wp2_with fail
          go_ret
          exact⟨retb E.out.symm,rfl⟩
         |false=>
          cases t17:(s.toList== [60])with
          |true=>
            have E:Hid (operB s n=(n==2)):=Lib.hid (by unfold operB opTwo;simp only [List.any_cons,List.any_nil,t0,t1,t2,t3,t4,t5,t6,t7,t8,t9,t10,t11,t12,t13,t14,t15,t16,t17,Bool.false_or,Bool.or_false,Bool.true_or,Bool.or_true,if_true];rfl)
            go_enter Tryz.func119,Tryz.ntmps119
            go_wp2_with fail
            go_ret
            exact⟨retb E.out.symm,rfl⟩
          |false=>
          cases t18:(s.toList== [61,60])with
          |true=>
           have E:Hid (operB s n=(n==2)):=Lib.hid (by unfold operB opTwo;simp only [List.any_cons,List.any_nil,t0,t1,t2,t3,t4,t5,t6,t7,t8,t9,t10,t11,t12,t13,t14,t15,t16,t17,t18,Bool.false_or,Bool.or_false,Bool.true_or,Bool.or_true,if_true];rfl)
           go_enter Tryz.func119,Tryz.ntmps119
           go_wp2_with fail
           go_ret
           exact⟨retb E.out.symm,rfl⟩
          |false=>
           cases t19:(s.toList== [62])with
           |true=>
             have E:Hid (operB s n=(n==2)):=Lib.hid (by unfold operB opTwo;simp only [List.any_cons,List.any_nil,t0,t1,t2,t3,t4,t5,t6,t7,t8,t9,t10,t11,t12,t13,t14,t15,t16,t17,t18,t19,Bool.false_or,Bool.or_false,Bool.true_or,Bool.or_true,if_true];rfl)
             go_enter Tryz.func119,Tryz.ntmps119
             go_wp2_with fail
             go_ret
             exact⟨retb E.out.symm,rfl⟩
           |false=>
           cases t20:(s.toList== [62,61])with
           |true=>
            have E:Hid (operB s n=(n==2)):=Lib.hid (by unfold operB opTwo;simp only [List.any_cons,List.any_nil,t0,t1,t2,t3,t4,t5,t6,t7,t8,t9,t10,t11,t12,t13,t14,t15,t16,t17,t18,t19,t20,Bool.false_or,Bool.or_false,Bool.true_or,Bool.or_true,if_true];rfl)
            go_enter Tryz.func119,Tryz.ntmps119
            go_wp2_with fail
            go_ret
            exact⟨retb E.out.symm,rfl⟩
           |false=>
            cases t21:(s.toList== [43,43])with
            |true=>
              have E:Hid (operB s n=(n==2)):=Lib.hid (by unfold operB opTwo;simp only [List.any_cons,List.any_nil,t0,t1,t2,t3,t4,t5,t6,t7,t8,t9,t10,t11,t12,t13,t14,t15,t16,t17,t18,t19,t20,t21,Bool.false_or,Bool.or_false,Bool.true_or,Bool.or_true,if_true];rfl)
              go_enter Tryz.func119,Tryz.ntmps119
              go_wp2_with fail
              go_ret
              exact⟨retb E.out.symm,rfl⟩
            |false=>
            have E:Hid (operB s n=false):=Lib.hid (by unfold operB opTwo;simp only [List.any_cons,List.any_nil,t0,t1,t2,t3,t4,t5,t6,t7,t8,t9,t10,t11,t12,t13,t14,t15,t16,t17,t18,t19,t20,t21,Bool.false_or];rfl)
            go_enter Tryz.func119,Tryz.ntmps119
            go_wp2_with fail
            go_ret
            exact⟨retb E.out.symm,rfl⟩
end Go.Proofs.YtponljdhfoipjaaGreatDoor
