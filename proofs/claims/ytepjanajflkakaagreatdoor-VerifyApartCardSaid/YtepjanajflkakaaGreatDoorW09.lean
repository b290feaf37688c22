import Derived.Test.YtepjanajflkakaaGreatDoorW03
import Derived.Test.YtepjanajflkakaaGreatDoorW04
import Derived.Test.YtepjanajflkakaaGreatDoorW05
namespace Go.Proofs.YtepjanajflkakaaGreatDoor
open Go.RowKit
set_option linter.unusedVariables false
set_option linter.unusedSimpArgs false
set_option maxRecDepth 100000
set_option maxHeartbeats 0
section
variable {P:Program} {ρ:Go.Shelf.Ren}
theorem zb0 (L:SlLaysE0.n41 P ρ) (i0:TypeInfo) (z:Value) (size bytes:Nat) (hi:P.info? (ρ.t 23)=some i0) (hz0:i0.zero=some z) (hz1:i0.size=size) (hz2:i0.bytes=bytes) (hzs:z.cells.size=size) (hsz:0<size)
  (z23: ∀w,(Go.sizeOf (ρ.t 23)).run P w= .ok size w) (a:Addr) (c:Nat) (w:World):
  Calls P (ρ.f 41) #[.slice (some a) 0 c] w fun e w'=> ∃v',e= .returned v'/\w'.ownsRow w.heap.size (ρ.t 23) size v' 0 []/\v'≠ .slice none 0 0/\Below w.heap.size w w':=by
 have mixed:=L.mixed;have t4:=L.t4;have a4:=L.a4;have z4:=L.z4;have v4:=L.v4;have t22:=L.t22;have a22:=L.a22;have z22:=L.z22;have v22:=L.v22;have q22: ∀(w:World) (a:zzA) (n c n' c':Nat),(binOp .eql (ρ.t 22) (.slice a n c) (.slice none n' c')).run P w= .ok (.bool a.isNone) w:=fun w a n c n' c'=>Lib.run_eql_slice_nil w _ _ a n c n' c' L.t22
 have u22: ∀w,Sem.run P (underlying (ρ.t 22)) w= .ok (TypeDesc.slice (ρ.t 23)) w:=run_underlying t22;obtain⟨_,_,FG⟩:=L.f41;go_enter FG,SlBodyN.n41_ntmps ρ;go_wp2_with (at_builtin;refine wpList_append_own _ rfl _ _ (ρ.t 22) rfl w.heap.size (ρ.t 23) i0 z size bytes t22 hi hz0 hz1 hz2 hzs hsz _ _ _ rfl (World.ownsRow_made w #[] 0 (zzL _) (zzZ _) (by simp)) a 0 c [] rfl ?qc1 ?qc2 ?qc3 ?qc4 ?qc5 ?qc6 ?_)
 case qc1=>simp
 case qc2=>intro j u hj;simp at hj
 case qc3=>simp
 case qc4=>exact zzZ _
 case qc5=>simp
 case qc6=>simp
 intro v' w1 hown hgrow hnil;go_wp2;go_ret;refine⟨v',rfl,by simpa using hown,?_,?_⟩
 ·exact hnil
 ·exact((zzR _ w).alloc (zzL _) _).grown hgrow (by simp) (by intro k hk;simp [Value.ownBlock]at hk;omega)
end
def zeI (u:RUnit):Prop:=u.funcs.length*40<=140737488355328/\u.funs.length*24<=140737488355328/\u.code.length*136<=140737488355328/\ ∀x∈u.code,x.src.length*16<=140737488355328/\x.cases.length*16<=140737488355328/\x.segs.length*48<=140737488355328
theorem zdm {α:Type} {w:World} {T:TypeId} {size B:Nat} {v:Value} {vs:List Value} {R:List Value->α->Prop} {l:List α} (h:w.ownsRow B T size v l.length vs) (hr: ∀j (h:j<l.length),∃cs:List Value,cs.length=size/\(∀i,i<size->vs[j*size+i]?=cs[i]?)/\R cs l[j]):
  ∃ao c,v= .slice ao l.length c/\SlS w (fun _ _=>R) T size B w.heap.size ao l:=by
 refine AccS.sl ⟨vs,fun _=>B,fun _=>B,h,fun j hj=>⟨zzL _,zzL _,?_,fun g hg=>.inr (h.lt g hg).1,fun _ _=>zzL _⟩,hr⟩;rcases h.2 with⟨_,h0⟩|⟨g,cap,cur,rfl,hB,hg,_⟩
 ·omega
 ·exact zzY hB (zzb (zb hg))
def zk6:Go.Shelf.Ren:=⟨fun|41=>77|n=>n,fun|22=>22|23=>116|4=>4|n=>n,fun|n=>n⟩
theorem zfy:Go.Proofs.SlLaysE0.n41 Tryz.prog zk6:={
 mixed:=by kernel_rfl
 f41:=⟨Tryz.f77.name,by decide,Tryz.func77.trans (congrArg some (by kernel_rfl))⟩
 t4:=Tryz.underlying4
 a4:=Tryz.isAgg4
 z4:=Tryz.sizeOf4
 v4:=Tryz.zeroValue4
 t22:=Tryz.underlying22
 a22:=Tryz.isAgg22
 z22:=Tryz.sizeOf22
 v22:=Tryz.zeroValue22}
theorem zjd:(Tryz.prog.info? 116).map (fun i=>(i.zero,i.size,i.bytes))=some (some (.agg #[.int .i64 0,.int .i64 0,.int .i64 0,.string ⟨#[]⟩,.string ⟨#[]⟩,.int .i64 0,.slice none 0 0,.string ⟨#[]⟩,.int .i64 0]),9,112):=by kernel_rfl
theorem zi4 {R:List Value->Tm->Prop} (hone: ∀cs a,R cs a-> ∀v∈cs,v.oneCell'=true) (l:List Tm) (ao:zzA) (c:Nat) (w:World) (h:SlAt w 9 R ao l) (hl:l.length*112<=140737488355328):
  Calls Tryz.prog 77 #[.slice ao l.length c] w fun e w'=>(∃ao' c',e= .returned (.slice ao' l.length c')/\SlS w' (fun _ _=>R) 116 9 w.heap.size w'.heap.size ao' l)/\Below w.heap.size w w':=by
 obtain⟨i0,hi,hz0,hz1,hz2⟩:=info_parts zjd;by_cases hnil:l= []
 ·subst hnil
  cases ao with
  |none=>
   refine(AnyE.slices_Clone_nil zfy 0 c w).mono ?_;exact zz5
  |some a=>
   refine(zb0 zfy i0 _ 9 112 hi hz0 hz1 hz2 rfl (by decide) Tryz.sizeOf116 a c w).mono ?_;exact zz3
 ·obtain⟨b,off,rfl,hb,hr⟩:=h.rows hnil
  obtain⟨vs,e1,e2,e3⟩:=zbt hr hone;refine(AnyE.slices_Clone zfy i0 _ 9 112 hi hz0 hz1 hz2 rfl (by decide) Tryz.sizeOf116 b off l.length c vs w e1 (by unfold maxLen;omega) (by omega) (fun j u hj=>?_) e3).mono ?_
  ·have hj2:j<l.length*9:=by have:=(List.getElem?_eq_some_iff.1 hj).1;omega
   rw [e2 j hj2,hj]
  ·rintro e w' ⟨v,rfl,ho,-,hbw⟩
   have hrow: ∀j (h:j<l.length),∃cs:List Value,cs.length=9/\(∀i,i<9->vs[j*9+i]?=cs[i]?)/\R cs l[j]:=fun j hj=>by
    obtain⟨cs,k1,k2,k3⟩:=hr j hj;exact⟨cs,k1,fun i hi=>by rw [<-k2 i hi,<-e2 (j*9+i) (by omega),Nat.add_assoc],k3⟩
   exact zz4
def zlq:Go.Shelf.Ren:=⟨fun|41=>79|n=>n,fun|22=>23|23=>106|4=>4|n=>n,fun|n=>n⟩
theorem zfi:Go.Proofs.SlLaysE0.n41 Tryz.prog zlq:={
 mixed:=by kernel_rfl
 f41:=⟨Tryz.f79.name,by decide,Tryz.func79.trans (congrArg some (by kernel_rfl))⟩
 t4:=Tryz.underlying4
 a4:=Tryz.isAgg4
 z4:=Tryz.sizeOf4
 v4:=Tryz.zeroValue4
 t22:=Tryz.underlying23
 a22:=Tryz.isAgg23
 z22:=Tryz.sizeOf23
 v22:=Tryz.zeroValue23}
theorem zfR:(Tryz.prog.info? 106).map (fun i=>(i.zero,i.size,i.bytes))=some (some (.agg #[.string ⟨#[]⟩,.int .i64 0,.bool false,.int .i64 0]),4,40):=by kernel_rfl
theorem zi7 {R:List Value->RFunc->Prop} (hone: ∀cs a,R cs a-> ∀v∈cs,v.oneCell'=true) (l:List RFunc) (ao:zzA) (c:Nat) (w:World) (h:SlAt w 4 R ao l) (hl:l.length*40<=140737488355328):
  Calls Tryz.prog 79 #[.slice ao l.length c] w fun e w'=>(∃ao' c',e= .returned (.slice ao' l.length c')/\SlS w' (fun _ _=>R) 106 4 w.heap.size w'.heap.size ao' l)/\Below w.heap.size w w':=by
 obtain⟨i0,hi,hz0,hz1,hz2⟩:=info_parts zfR;by_cases hnil:l= []
 ·subst hnil
  cases ao with
  |none=>
   refine(AnyE.slices_Clone_nil zfi 0 c w).mono ?_;exact zz5
  |some a=>
   refine(zb0 zfi i0 _ 4 40 hi hz0 hz1 hz2 rfl (by decide) Tryz.sizeOf106 a c w).mono ?_;exact zz3
 ·obtain⟨b,off,rfl,hb,hr⟩:=h.rows hnil
  obtain⟨vs,e1,e2,e3⟩:=zbt hr hone;refine(AnyE.slices_Clone zfi i0 _ 4 40 hi hz0 hz1 hz2 rfl (by decide) Tryz.sizeOf106 b off l.length c vs w e1 (by unfold maxLen;omega) (by omega) (fun j u hj=>?_) e3).mono ?_
  ·have hj2:j<l.length*4:=by have:=(List.getElem?_eq_some_iff.1 hj).1;omega
   rw [e2 j hj2,hj]
  ·rintro e w' ⟨v,rfl,ho,-,hbw⟩
   have hrow: ∀j (h:j<l.length),∃cs:List Value,cs.length=4/\(∀i,i<4->vs[j*4+i]?=cs[i]?)/\R cs l[j]:=fun j hj=>by
    obtain⟨cs,k1,k2,k3⟩:=hr j hj;exact⟨cs,k1,fun i hi=>by rw [<-k2 i hi,<-e2 (j*4+i) (by omega),Nat.add_assoc],k3⟩
   exact zz4
def zlJ:Go.Shelf.Ren:=⟨fun|41=>80|n=>n,fun|22=>24|23=>70|4=>4|n=>n,fun|n=>n⟩
theorem zgy:Go.Proofs.SlLaysE0.n41 Tryz.prog zlJ:={
 mixed:=by kernel_rfl
 f41:=⟨Tryz.f80.name,by decide,Tryz.func80.trans (congrArg some (by kernel_rfl))⟩
 t4:=Tryz.underlying4
 a4:=Tryz.isAgg4
 z4:=Tryz.sizeOf4
 v4:=Tryz.zeroValue4
 t22:=Tryz.underlying24
 a22:=Tryz.isAgg24
 z22:=Tryz.sizeOf24
 v22:=Tryz.zeroValue24}
theorem zgk:(Tryz.prog.info? 70).map (fun i=>(i.zero,i.size,i.bytes))=some (some (.agg #[.int .i64 0,.int .i64 0,.int .i64 0]),3,24):=by kernel_rfl
theorem zkQ {R:List Value->RFun->Prop} (hone: ∀cs a,R cs a-> ∀v∈cs,v.oneCell'=true) (l:List RFun) (ao:zzA) (c:Nat) (w:World) (h:SlAt w 3 R ao l) (hl:l.length*24<=140737488355328):
  Calls Tryz.prog 80 #[.slice ao l.length c] w fun e w'=>(∃ao' c',e= .returned (.slice ao' l.length c')/\SlS w' (fun _ _=>R) 70 3 w.heap.size w'.heap.size ao' l)/\Below w.heap.size w w':=by
 obtain⟨i0,hi,hz0,hz1,hz2⟩:=info_parts zgk;by_cases hnil:l= []
 ·subst hnil
  cases ao with
  |none=>
   refine(AnyE.slices_Clone_nil zgy 0 c w).mono ?_;exact zz5
  |some a=>
   refine(zb0 zgy i0 _ 3 24 hi hz0 hz1 hz2 rfl (by decide) Tryz.sizeOf70 a c w).mono ?_;exact zz3
 ·obtain⟨b,off,rfl,hb,hr⟩:=h.rows hnil
  obtain⟨vs,e1,e2,e3⟩:=zbt hr hone;refine(AnyE.slices_Clone zgy i0 _ 3 24 hi hz0 hz1 hz2 rfl (by decide) Tryz.sizeOf70 b off l.length c vs w e1 (by unfold maxLen;omega) (by omega) (fun j u hj=>?_) e3).mono ?_
  ·have hj2:j<l.length*3:=by have:=(List.getElem?_eq_some_iff.1 hj).1;omega
   rw [e2 j hj2,hj]
  ·rintro e w' ⟨v,rfl,ho,-,hbw⟩
   have hrow: ∀j (h:j<l.length),∃cs:List Value,cs.length=3/\(∀i,i<3->vs[j*3+i]?=cs[i]?)/\R cs l[j]:=fun j hj=>by
    obtain⟨cs,k1,k2,k3⟩:=hr j hj;exact⟨cs,k1,fun i hi=>by rw [<-k2 i hi,<-e2 (j*3+i) (by omega),Nat.add_assoc],k3⟩
   exact zz4
def zlK:Go.Shelf.Ren:=⟨fun|41=>81|n=>n,fun|22=>25|23=>47|4=>4|n=>n,fun|n=>n⟩
theorem zgd:Go.Proofs.SlLaysE0.n41 Tryz.prog zlK:={
 mixed:=by kernel_rfl
 f41:=⟨Tryz.f81.name,by decide,Tryz.func81.trans (congrArg some (by kernel_rfl))⟩
 t4:=Tryz.underlying4
 a4:=Tryz.isAgg4
 z4:=Tryz.sizeOf4
 v4:=Tryz.zeroValue4
 t22:=Tryz.underlying25
 a22:=Tryz.isAgg25
 z22:=Tryz.sizeOf25
 v22:=Tryz.zeroValue25}
theorem zgH:(Tryz.prog.info? 47).map (fun i=>(i.zero,i.size,i.bytes))=some (some (.agg #[.int .i64 0,.int .i64 0,.int .i64 0,.slice none 0 0,.int .i64 0,.int .i64 0,.int .i64 0,.string ⟨#[]⟩,.slice none 0 0,.slice none 0 0]),10,136):=by kernel_rfl
theorem zka {R:List Value->RIns->Prop} (hone: ∀cs a,R cs a-> ∀v∈cs,v.oneCell'=true) (l:List RIns) (ao:zzA) (c:Nat) (w:World) (h:SlAt w 10 R ao l) (hl:l.length*136<=140737488355328):
  Calls Tryz.prog 81 #[.slice ao l.length c] w fun e w'=>(∃ao' c',e= .returned (.slice ao' l.length c')/\SlS w' (fun _ _=>R) 47 10 w.heap.size w'.heap.size ao' l)/\Below w.heap.size w w':=by
 obtain⟨i0,hi,hz0,hz1,hz2⟩:=info_parts zgH;by_cases hnil:l= []
 ·subst hnil
  cases ao with
  |none=>
   refine(AnyE.slices_Clone_nil zgd 0 c w).mono ?_;exact zz5
  |some a=>
   refine(zb0 zgd i0 _ 10 136 hi hz0 hz1 hz2 rfl (by decide) Tryz.sizeOf47 a c w).mono ?_;exact zz3
 ·obtain⟨b,off,rfl,hb,hr⟩:=h.rows hnil
  obtain⟨vs,e1,e2,e3⟩:=zbt hr hone;refine(AnyE.slices_Clone zgd i0 _ 10 136 hi hz0 hz1 hz2 rfl (by decide) Tryz.sizeOf47 b off l.length c vs w e1 (by unfold maxLen;omega) (by omega) (fun j u hj=>?_) e3).mono ?_
  ·have hj2:j<l.length*10:=by have:=(List.getElem?_eq_some_iff.1 hj).1;omega
   rw [e2 j hj2,hj]
  ·rintro e w' ⟨v,rfl,ho,-,hbw⟩
   have hrow: ∀j (h:j<l.length),∃cs:List Value,cs.length=10/\(∀i,i<10->vs[j*10+i]?=cs[i]?)/\R cs l[j]:=fun j hj=>by
    obtain⟨cs,k1,k2,k3⟩:=hr j hj;exact⟨cs,k1,fun i hi=>by rw [<-k2 i hi,<-e2 (j*10+i) (by omega),Nat.add_assoc],k3⟩
   exact zz4
def zlN:Go.Shelf.Ren:=⟨fun|41=>82|n=>n,fun|22=>43|23=>42|4=>4|n=>n,fun|n=>n⟩
theorem zgY:Go.Proofs.SlLaysE0.n41 Tryz.prog zlN:={
 mixed:=by kernel_rfl
 f41:=⟨Tryz.f82.name,by decide,Tryz.func82.trans (congrArg some (by kernel_rfl))⟩
 t4:=Tryz.underlying4
 a4:=Tryz.isAgg4
 z4:=Tryz.sizeOf4
 v4:=Tryz.zeroValue4
 t22:=Tryz.underlying43
 a22:=Tryz.isAgg43
 z22:=Tryz.sizeOf43
 v22:=Tryz.zeroValue43}
theorem zgP:(Tryz.prog.info? 42).map (fun i=>(i.zero,i.size,i.bytes))=some (some (.agg #[.int .i64 0,.int .i64 0]),2,16):=by kernel_rfl
theorem zki {R:List Value->RArg->Prop} (hone: ∀cs a,R cs a-> ∀v∈cs,v.oneCell'=true) (l:List RArg) (ao:zzA) (c:Nat) (w:World) (h:SlAt w 2 R ao l) (hl:l.length*16<=140737488355328):
  Calls Tryz.prog 82 #[.slice ao l.length c] w fun e w'=>(∃ao' c',e= .returned (.slice ao' l.length c')/\SlS w' (fun _ _=>R) 42 2 w.heap.size w'.heap.size ao' l)/\Below w.heap.size w w':=by
 obtain⟨i0,hi,hz0,hz1,hz2⟩:=info_parts zgP;by_cases hnil:l= []
 ·subst hnil
  cases ao with
  |none=>
   refine(AnyE.slices_Clone_nil zgY 0 c w).mono ?_;exact zz5
  |some a=>
   refine(zb0 zgY i0 _ 2 16 hi hz0 hz1 hz2 rfl (by decide) Tryz.sizeOf42 a c w).mono ?_;exact zz3
 ·obtain⟨b,off,rfl,hb,hr⟩:=h.rows hnil
  obtain⟨vs,e1,e2,e3⟩:=zbt hr hone;refine(AnyE.slices_Clone zgY i0 _ 2 16 hi hz0 hz1 hz2 rfl (by decide) Tryz.sizeOf42 b off l.length c vs w e1 (by unfold maxLen;omega) (by omega) (fun j u hj=>?_) e3).mono ?_
  ·have hj2:j<l.length*2:=by have:=(List.getElem?_eq_some_iff.1 hj).1;omega
   rw [e2 j hj2,hj]
  ·exact zz6
def zk4:Go.Shelf.Ren:=⟨fun|41=>83|n=>n,fun|22=>44|23=>111|4=>4|n=>n,fun|n=>n⟩
theorem zfA:Go.Proofs.SlLaysE0.n41 Tryz.prog zk4:={
 mixed:=by kernel_rfl
 f41:=⟨Tryz.f83.name,by decide,Tryz.func83.trans (congrArg some (by kernel_rfl))⟩
 t4:=Tryz.underlying4
 a4:=Tryz.isAgg4
 z4:=Tryz.sizeOf4
 v4:=Tryz.zeroValue4
 t22:=Tryz.underlying44
 a22:=Tryz.isAgg44
 z22:=Tryz.sizeOf44
 v22:=Tryz.zeroValue44}
theorem zf0:(Tryz.prog.info? 111).map (fun i=>(i.zero,i.size,i.bytes))=some (some (.agg #[.int .i64 0,.int .i64 0]),2,16):=by kernel_rfl
theorem ziF {R:List Value->RCase->Prop} (hone: ∀cs a,R cs a-> ∀v∈cs,v.oneCell'=true) (l:List RCase) (ao:zzA) (c:Nat) (w:World) (h:SlAt w 2 R ao l) (hl:l.length*16<=140737488355328):
  Calls Tryz.prog 83 #[.slice ao l.length c] w fun e w'=>(∃ao' c',e= .returned (.slice ao' l.length c')/\SlS w' (fun _ _=>R) 111 2 w.heap.size w'.heap.size ao' l)/\Below w.heap.size w w':=by
 obtain⟨i0,hi,hz0,hz1,hz2⟩:=info_parts zf0;by_cases hnil:l= []
 ·subst hnil
  cases ao with
  |none=>
   refine(AnyE.slices_Clone_nil zfA 0 c w).mono ?_;exact zz5
  |some a=>
   refine(zb0 zfA i0 _ 2 16 hi hz0 hz1 hz2 rfl (by decide) Tryz.sizeOf111 a c w).mono ?_;exact zz3
 ·obtain⟨b,off,rfl,hb,hr⟩:=h.rows hnil
  obtain⟨vs,e1,e2,e3⟩:=zbt hr hone;refine(AnyE.slices_Clone zfA i0 _ 2 16 hi hz0 hz1 hz2 rfl (by decide) Tryz.sizeOf111 b off l.length c vs w e1 (by unfold maxLen;omega) (by omega) (fun j u hj=>?_) e3).mono ?_
  ·have hj2:j<l.length*2:=by have:=(List.getElem?_eq_some_iff.1 hj).1;omega
   rw [e2 j hj2,hj]
  ·exact zz6
def zlM:Go.Shelf.Ren:=⟨fun|41=>84|n=>n,fun|22=>45|23=>113|4=>4|n=>n,fun|n=>n⟩
theorem zgC:Go.Proofs.SlLaysE0.n41 Tryz.prog zlM:={
 mixed:=by kernel_rfl
 f41:=⟨Tryz.f84.name,by decide,Tryz.func84.trans (congrArg some (by kernel_rfl))⟩
 t4:=Tryz.underlying4
 a4:=Tryz.isAgg4
 z4:=Tryz.sizeOf4
 v4:=Tryz.zeroValue4
 t22:=Tryz.underlying45
 a22:=Tryz.isAgg45
 z22:=Tryz.sizeOf45
 v22:=Tryz.zeroValue45}
theorem zgu:(Tryz.prog.info? 113).map (fun i=>(i.zero,i.size,i.bytes))=some (some (.agg #[.int .i64 0,.int .i64 0,.int .i64 0,.int .i64 0,.int .i64 0,.bool false]),6,48):=by kernel_rfl
theorem zkm {R:List Value->RSeg->Prop} (hone: ∀cs a,R cs a-> ∀v∈cs,v.oneCell'=true) (l:List RSeg) (ao:zzA) (c:Nat) (w:World) (h:SlAt w 6 R ao l) (hl:l.length*48<=140737488355328):
  Calls Tryz.prog 84 #[.slice ao l.length c] w fun e w'=>(∃ao' c',e= .returned (.slice ao' l.length c')/\SlS w' (fun _ _=>R) 113 6 w.heap.size w'.heap.size ao' l)/\Below w.heap.size w w':=by
 obtain⟨i0,hi,hz0,hz1,hz2⟩:=info_parts zgu;by_cases hnil:l= []
 ·subst hnil
  cases ao with
  |none=>
   refine(AnyE.slices_Clone_nil zgC 0 c w).mono ?_;exact zz5
  |some a=>
   refine(zb0 zgC i0 _ 6 48 hi hz0 hz1 hz2 rfl (by decide) Tryz.sizeOf113 a c w).mono ?_;exact zz3
 ·obtain⟨b,off,rfl,hb,hr⟩:=h.rows hnil
  obtain⟨vs,e1,e2,e3⟩:=zbt hr hone;refine(AnyE.slices_Clone zgC i0 _ 6 48 hi hz0 hz1 hz2 rfl (by decide) Tryz.sizeOf113 b off l.length c vs w e1 (by unfold maxLen;omega) (by omega) (fun j u hj=>?_) e3).mono ?_
  ·have hj2:j<l.length*6:=by have:=(List.getElem?_eq_some_iff.1 hj).1;omega
   rw [e2 j hj2,hj]
  ·rintro e w' ⟨v,rfl,ho,-,hbw⟩
   have hrow: ∀j (h:j<l.length),∃cs:List Value,cs.length=6/\(∀i,i<6->vs[j*6+i]?=cs[i]?)/\R cs l[j]:=fun j hj=>by
    obtain⟨cs,k1,k2,k3⟩:=hr j hj;exact⟨cs,k1,fun i hi=>by rw [<-k2 i hi,<-e2 (j*6+i) (by omega),Nat.add_assoc],k3⟩
   exact zz4
theorem zkk {P:Program} {w:World} {ops:Array Oper} {rest:List Oper} {o:Oper} {a:Act} {Q:Exit->Act->World->Prop} (hgd:o.guard=none) (s x:Operand) (t e:TypeId)
  (ho:o.op= .call {callee:=.builtin .append,args:=#[s,x],argTypes:=#[t,t]}) (i:TypeInfo) (ht:P.underlying t=some (.slice e)) (hi:P.info? e=some i) (bo:zzA) (n m:Nat) (hle:n<=m) (hs:a.eval s= .slice bo n m) (ao:zzA) (c:Nat) (hx:a.eval x= .slice ao 0 c)
  (h:wpList P ops Q rest (a.put o.dst (.slice bo n m)) w):wpList P ops Q (o::rest) a w:=by
 refine wpList_plain hgd fun K hK=>?_
 have hrun:=run_append_nothing (P:=P) w t t o.type e i ht hi bo n m hle (.slice ao 0 c) ⟨.inl ⟨e,ht⟩,fun w'=>by simp [Builtin.lenOf],by cases ao<;>simp [Builtin.firstCells,loadCells,loadCellsFrom],by cases ao<;>simp [Builtin.firstCells,loadCells,loadCellsFrom],by simp,fun u hu=>by cases hu⟩;unfold Oper.wp;simp [execOp,ho,resolve,invoke,builtin,hs,hx,hrun,Result.andThen];exact hK _ _ h
theorem zd6 {α:Type} {P:Program} {w:World} {ops:Array Oper} {rest:List Oper} {o:Oper} {a:Act} {Q:Exit->Act->World->Prop} (hgd:o.guard=none) (s x:Operand) (t:TypeId)
  (ho:o.op= .call {callee:=.builtin .append,args:=#[s,x],argTypes:=#[t,t]}) (base:Nat) (e:TypeId) (i:TypeInfo) (z:Value) (size bytes:Nat) (ht:P.underlying t=some (.slice e)) (hi:P.info? e=some i) (hz:i.zero=some z)
  (hsize:i.size=size) (hby:i.bytes=bytes) (hzs:z.cells.size=size) (hsz:0<size) (bo:zzA) (m0:Nat) (hs:a.eval s= .slice bo 0 m0) (hown:w.ownsRow base e size (.slice bo 0 m0) 0 [])
  {R:List Value->α->Prop} (hone: ∀cs a,R cs a-> ∀v∈cs,v.oneCell'=true) (l:List α) (ao:zzA) (c:Nat) (hx:a.eval x= .slice ao l.length c) (hsl:SlAt w size R ao l) (hl:l.length<=maxLen) (hb:l.length*bytes<=140737488355328) (hbase:base<=w.heap.size)
  (h: ∀ao' c' w',SlS w' (fun _ _=>R) e size base w'.heap.size ao' l->w.grownBy w' (Value.slice bo 0 m0).ownBlock->wpList P ops Q rest (a.put o.dst (.slice ao' l.length c')) w'):wpList P ops Q (o::rest) a w:=by
 by_cases hnil:l= []
 ·subst hnil
  exact zkk hgd s x t e ho i ht hi bo 0 m0 (zzZ _) hs ao c hx (h bo m0 w (.inl rfl) ⟨rfl,rfl,rfl,zzL _,fun _ _ _=>rfl⟩)
 ·obtain⟨b,off,rfl,hbl,hr⟩:=hsl.rows hnil
  obtain⟨vs,e1,e2,e3⟩:=zbt hr hone;refine wpList_append_own w hgd s x t ho base e i z size bytes ht hi hz hsize hby hzs hsz _ 0 [] hs hown ⟨b,off,none⟩ l.length c vs hx e1 (fun j u hj=>?_) e3 (by rw [Nat.zero_add];exact hl) (by rw [Nat.zero_add];exact hb) hbase fun v' w' ho' hg' _=>?_
  ·have hj2:j<l.length*size:=by have:=(List.getElem?_eq_some_iff.1 hj).1;omega
   rw [Addr.add_lit,e2 j hj2,hj]
  ·rw [List.nil_append,Nat.zero_add]at ho'
   have hrow: ∀j (h:j<l.length),∃cs:List Value,cs.length=size/\(∀i,i<size->vs[j*size+i]?=cs[i]?)/\R cs l[j]:=fun j hj=>by
    obtain⟨cs,k1,k2,k3⟩:=hr j hj;refine⟨cs,k1,fun i hi=>?_,k3⟩
    have hlt:j*size+i<l.length*size:=by
     have:(j+1)*size<=l.length*size:=Nat.mul_le_mul_right _ hj;rw [Nat.succ_mul]at this;omega
    rw [<-k2 i hi,<-e2 (j*size+i) hlt,Nat.add_assoc]
   obtain⟨ao',c',rfl,hs'⟩:=zdm ho' hrow;exact h ao' c' w' hs' hg'
theorem zb7 {w:World} {b:Nat} {v0 v1 v2 v3 v4 v5 v6 v7 v8 v9:Value} {t:TypeId} (h:w.heap[b]?=some (.cells #[v0,v1,v2,v3,v4,v5,v6,v7,v8,v9] t (0,0))):
  w.cell? ⟨b,0,none⟩=some v0/\w.cell? ⟨b,1,none⟩=some v1/\w.cell? ⟨b,2,none⟩=some v2/\w.cell? ⟨b,3,none⟩=some v3/\w.cell? ⟨b,4,none⟩=some v4/\w.cell? ⟨b,5,none⟩=some v5/\w.cell? ⟨b,6,none⟩=some v6/\w.cell? ⟨b,7,none⟩=some v7/\w.cell? ⟨b,8,none⟩=some v8/\w.cell? ⟨b,9,none⟩=some v9:=by
 have hc:=fun j=>zzq0 w b j _ _ _ h
 exact⟨hc 0,hc 1,hc 2,hc 3,hc 4,hc 5,hc 6,hc 7,hc 8,hc 9⟩
theorem zbL {w:World} {b:Nat} {v0 v1 v2 v3 v4 v5:Value} {t:TypeId} (h:w.heap[b]?=some (.cells #[v0,v1,v2,v3,v4,v5] t (0,0))):
  w.cell? ⟨b,0,none⟩=some v0/\w.cell? ⟨b,1,none⟩=some v1/\w.cell? ⟨b,2,none⟩=some v2/\w.cell? ⟨b,3,none⟩=some v3/\w.cell? ⟨b,4,none⟩=some v4/\w.cell? ⟨b,5,none⟩=some v5:=by
 have hc:=fun j=>zzq0 w b j _ _ _ h
 exact⟨hc 0,hc 1,hc 2,hc 3,hc 4,hc 5⟩
theorem zih (x:RIns) (so co go so' co' go':zzA) (sc cc gc sc' cc' gc':Nat) (w:World) (s1:SlAt w 2 zcB so x.src) (s2:SlAt w 2 zbP co x.cases) (s3:SlAt w 6 zcD go x.segs) (t1:SlAt w 2 zcB so' x.src) (t2:SlAt w 2 zbP co' x.cases) (t3:SlAt w 6 zcD go' x.segs)
  (r1:x.src.length<=maxLen) (r2:x.cases.length<=maxLen) (r3:x.segs.length<=maxLen):
  Calls Tryz.prog 50 #[.agg (zzi x so sc co cc go gc),.agg (zzi x so' sc' co' cc' go' gc')] w fun e w'=>e= .returned (.bool true)/\Below w.heap.size w w':=by
 unfold zzi;unfold maxLen at r1 r2 r3;have hbe:=zx w (.cells #[.int .i64 x.op,.int .i64 x.dst.kind,.int .i64 x.dst.n,.slice so x.src.length sc,.int .i64 x.to,.int .i64 x.n,.int .i64 x.live,.string x.name,.slice co x.cases.length cc,.slice go x.segs.length gc] 47) (.cells #[.int .i64 x.op,.int .i64 x.dst.kind,.int .i64 x.dst.n,.slice so' x.src.length sc',.int .i64 x.to,.int .i64 x.n,.int .i64 x.live,.string x.name,.slice co' x.cases.length cc',.slice go' x.segs.length gc'] 47);have e0:=zdk w (.cells #[.int .i64 x.op,.int .i64 x.dst.kind,.int .i64 x.dst.n,.slice so x.src.length sc,.int .i64 x.to,.int .i64 x.n,.int .i64 x.live,.string x.name,.slice co x.cases.length cc,.slice go x.segs.length gc] 47) (.cells #[.int .i64 x.op,.int .i64 x.dst.kind,.int .i64 x.dst.n,.slice so' x.src.length sc',.int .i64 x.to,.int .i64 x.n,.int .i64 x.live,.string x.name,.slice co' x.cases.length cc',.slice go' x.segs.length gc'] 47);have e1:=zcL w (.cells #[.int .i64 x.op,.int .i64 x.dst.kind,.int .i64 x.dst.n,.slice so x.src.length sc,.int .i64 x.to,.int .i64 x.n,.int .i64 x.live,.string x.name,.slice co x.cases.length cc,.slice go x.segs.length gc] 47) (.cells #[.int .i64 x.op,.int .i64 x.dst.kind,.int .i64 x.dst.n,.slice so' x.src.length sc',.int .i64 x.to,.int .i64 x.n,.int .i64 x.live,.string x.name,.slice co' x.cases.length cc',.slice go' x.segs.length gc'] 47);refine zzK9 (s1.mono hbe fun _ _ h=>h) (s2.mono hbe fun _ _ h=>h) (s3.mono hbe fun _ _ h=>h) (t1.mono hbe fun _ _ h=>h) (t2.mono hbe fun _ _ h=>h) (t3.mono hbe fun _ _ h=>h) e0 e1 hbe fun S1 S2 S3 T1 T2 T3 E0 E1 HBE=>?_;clear s1 s2 s3 t1 t2 t3 e0 e1 hbe;go_in;go_wp2_with fail;generalize World.alloc _ _=Wx at *;have HX0:=zzH (show w.heap.size<=Wx.heap.size from HBE.out.size);go_loopw [5] (fun iv wr=> ∃k:Nat,k<=x.src.length/\iv= .int .i64 k/\Below Wx.heap.size Wx wr) (fun iv _=>x.src.length-(intOf iv).toNat)
 case atStart=>exact⟨0,zzZ _,rfl,zzR _ _⟩
 case round=>
  obtain⟨k,hk,rfl,hbr⟩:=hrel;rename World=>wr
  have HBR:=zzH hbr;clear hbr;obtain⟨q0,q1,q2,q3,q4,q5,q6,q7,q8,q9⟩:=zb7 ((HBR.out.block _ (zb E0.out)).trans E0.out);obtain⟨p0,p1,p2,p3,p4,p5,p6,p7,p8,p9⟩:=zb7 ((HBR.out.block _ (zb E1.out)).trans E1.out);have hl0:w.heap.size<wr.heap.size:=zzW (zb E0.out) HBR.out.size;have hl1:w.heap.size+1<wr.heap.size:=zzW (zb E1.out) HBR.out.size;by_cases hlt:k<x.src.length
  ·obtain⟨b1,o1,hao,hb1,c0,c1,-,-⟩:=(S1.out.mono HBR.out fun _ _ h=>h).arg hlt
   obtain⟨b2,o2,hbo,hb2,d0,d1,-,-⟩:=(T1.out.mono HBR.out fun _ _ h=>h).arg hlt;subst hao;subst hbo;generalize x.src[k]=a at *;exact zz37
  ·go_wp2_with fail
   go_loopw [6] (fun iv wr=> ∃k:Nat,k<=x.cases.length/\iv= .int .i64 k/\Below Wx.heap.size Wx wr) (fun iv _=>x.cases.length-(intOf iv).toNat)
   case atStart=>exact⟨0,zzZ _,rfl,HBR.out⟩
   case round=>
    clear HBR q0 q1 q2 q3 q4 q5 q6 q7 q8 q9 p0 p1 p2 p3 p4 p5 p6 p7 p8 p9 hl0 hl1 hk hlt;obtain⟨k,hk,rfl,hbr⟩:=hrel;rename World=>wr
    have HBR:=zzH hbr;clear hbr;obtain⟨q0,q1,q2,q3,q4,q5,q6,q7,q8,q9⟩:=zb7 ((HBR.out.block _ (zb E0.out)).trans E0.out);obtain⟨p0,p1,p2,p3,p4,p5,p6,p7,p8,p9⟩:=zb7 ((HBR.out.block _ (zb E1.out)).trans E1.out);have hl0:w.heap.size<wr.heap.size:=zzW (zb E0.out) HBR.out.size;have hl1:w.heap.size+1<wr.heap.size:=zzW (zb E1.out) HBR.out.size;by_cases hlt:k<x.cases.length
    ·obtain⟨b1,o1,hao,hb1,c0,c1,-,-⟩:=(S2.out.mono HBR.out fun _ _ h=>h).case hlt
     obtain⟨b2,o2,hbo,hb2,d0,d1,-,-⟩:=(T2.out.mono HBR.out fun _ _ h=>h).case hlt;subst hao;subst hbo;generalize x.cases[k]=a at *;exact zz37
    ·go_wp2_with fail
     go_loopw [7] (fun iv wr=> ∃k:Nat,k<=x.segs.length/\iv= .int .i64 k/\Below Wx.heap.size Wx wr) (fun iv _=>x.segs.length-(intOf iv).toNat)
     case atStart=>exact⟨0,zzZ _,rfl,HBR.out⟩
     case round=>
      clear HBR q0 q1 q2 q3 q4 q5 q6 q7 q8 q9 p0 p1 p2 p3 p4 p5 p6 p7 p8 p9 hl0 hl1 hk hlt;obtain⟨k,hk,rfl,hbr⟩:=hrel;rename World=>wr
      have HBR:=zzH hbr;clear hbr;obtain⟨q0,q1,q2,q3,q4,q5,q6,q7,q8,q9⟩:=zb7 ((HBR.out.block _ (zb E0.out)).trans E0.out);obtain⟨p0,p1,p2,p3,p4,p5,p6,p7,p8,p9⟩:=zb7 ((HBR.out.block _ (zb E1.out)).trans E1.out);have hl0:w.heap.size<wr.heap.size:=zzW (zb E0.out) HBR.out.size;have hl1:w.heap.size+1<wr.heap.size:=zzW (zb E1.out) HBR.out.size;by_cases hlt:k<x.segs.length
      ·obtain⟨b1,o1,hao,hb1,c0,c1,c2,c3,c4,c5,-,-,-,-,-⟩:=(S3.out.mono HBR.out fun _ _ h=>h).seg hlt
       obtain⟨b2,o2,hbo,hb2,d0,d1,d2,d3,d4,d5,-,-,-,-,-⟩:=(T3.out.mono HBR.out fun _ _ h=>h).seg hlt;subst hao;subst hbo;generalize x.segs[k]=a at *;exact zz37
      ·go_wp2_with fail
       go_ret;exact⟨rfl,HBE.out.trans (HBR.out.mono HX0.out)⟩
theorem ziV (f:Nat) (u:RUnit) (lo fo go co lo' fo' go' co':zzA) (lc fc gc cc lc' fc' gc' cc':Nat) (w:World) (h1:UP w u lo fo go co) (h2:UP w u lo' fo' go' co') (l1:SlAt w 9 (TmAt w (f+1)) lo u.lits) (l2:SlAt w 9 (TmAt w (f+1)) lo' u.lits):
  Calls Tryz.prog 22 #[.agg (zzu u lo lc fo fc go gc co cc),.agg (zzu u lo' lc' fo' fc' go' gc' co' cc')] w fun e w'=>e= .returned (.bool true)/\Below w.heap.size w w':=by
 unfold zzu;have g1:=h1.litsLen;have g2:=h1.funcsLen;have g3:=h1.funsLen;have g4:=h1.codeLen;have hbe:=zx w (.cells #[.string u.mdl,.int .i64 u.vsn,.slice lo u.lits.length lc,.slice fo u.funcs.length fc,.slice go u.funs.length gc,.slice co u.code.length cc] 27) (.cells #[.string u.mdl,.int .i64 u.vsn,.slice lo' u.lits.length lc',.slice fo' u.funcs.length fc',.slice go' u.funs.length gc',.slice co' u.code.length cc'] 27);have e0:=zdk w (.cells #[.string u.mdl,.int .i64 u.vsn,.slice lo u.lits.length lc,.slice fo u.funcs.length fc,.slice go u.funs.length gc,.slice co u.code.length cc] 27) (.cells #[.string u.mdl,.int .i64 u.vsn,.slice lo' u.lits.length lc',.slice fo' u.funcs.length fc',.slice go' u.funs.length gc',.slice co' u.code.length cc'] 27);have e1:=zcL w (.cells #[.string u.mdl,.int .i64 u.vsn,.slice lo u.lits.length lc,.slice fo u.funcs.length fc,.slice go u.funs.length gc,.slice co u.code.length cc] 27) (.cells #[.string u.mdl,.int .i64 u.vsn,.slice lo' u.lits.length lc',.slice fo' u.funcs.length fc',.slice go' u.funs.length gc',.slice co' u.code.length cc'] 27);have S1:=zzH (l1.tms hbe);have S2:=zzH (h1.below hbe).funcs;have S3:=zzH (h1.below hbe).funs;have S4:=zzH (h1.below hbe).code;have T1:=zzH (l2.tms hbe);have T2:=zzH (h2.below hbe).funcs;have T3:=zzH (h2.below hbe).funs;have T4:=zzH (h2.below hbe).code;refine zzK3 e0 e1 hbe fun E0 E1 HBE=>?_;clear h1 h2 l1 l2 e0 e1 hbe;go_in;go_wp2_with fail;generalize World.alloc _ _=Wx at *;have HX0:=zzH (show w.heap.size<=Wx.heap.size from HBE.out.size);go_loopw [5] (fun iv wr=> ∃k:Nat,k<=u.lits.length/\iv= .int .i64 k/\Below Wx.heap.size Wx wr) (fun iv _=>u.lits.length-(intOf iv).toNat)
 case atStart=>exact⟨0,zzZ _,rfl,zzR _ _⟩
 case round=>
  obtain⟨k,hk,rfl,hbr⟩:=hrel;rename World=>wr
  have HBR:=zzH hbr;clear hbr;obtain⟨q0,q1,q2,q3,q4,q5⟩:=zbL ((HBR.out.block _ (zb E0.out)).trans E0.out);obtain⟨p0,p1,p2,p3,p4,p5⟩:=zbL ((HBR.out.block _ (zb E1.out)).trans E1.out);have hl0:w.heap.size<wr.heap.size:=zzW (zb E0.out) HBR.out.size;have hl1:w.heap.size+1<wr.heap.size:=zzW (zb E1.out) HBR.out.size;by_cases hlt:k<u.lits.length
  ·obtain⟨b1,o1,ai,ci,hao,hb1,c0,c1,c2,c3,c4,c5,c6,c7,c8,hit,hok⟩:=(S1.out.tms HBR.out).tm hlt
   obtain⟨b2,o2,bi,di,hbo,hb2,d0,d1,d2,d3,d4,d5,d6,d7,d8,hit2,-⟩:=(T1.out.tms HBR.out).tm hlt;subst hao;subst hbo;have hSM:=zje f u.lits[k] ai bi ci di wr.drew (hit.tms (zzR _ _).drew) (hit2.tms (zzR _ _).drew) hok.2.2.2.2.2.2.1;clear hit hit2 hok;generalize hx:u.lits[k]=x at *;clear hx;go_wp2_with fail;have hs0:=hl0;have hs1:=hl1
   first|go_region_held3 (fun w'=>(w'.cell? ⟨w.heap.size,2,none⟩=some (.slice (some ⟨b1,o1,none⟩) u.lits.length lc)/\w'.cell? ⟨w.heap.size+1,2,none⟩=some (.slice (some ⟨b2,o2,none⟩) u.lits.length lc'))/\(w'.cell? ⟨b1,o1+k*9,none⟩=some (.int .i64 x.kind)/\w'.cell? ⟨b1,o1+k*9+1,none⟩=some (.int .i64 x.int)/\w'.cell? ⟨b1,o1+k*9+2,none⟩=some (.int .i64 x.gen)/\w'.cell? ⟨b1,o1+k*9+3,none⟩=some (.string x.name)/\w'.cell? ⟨b1,o1+k*9+4,none⟩=some (.string x.func)/\w'.cell? ⟨b1,o1+k*9+5,none⟩=some (.int .i64 x.arity)/\w'.cell? ⟨b1,o1+k*9+6,none⟩=some (.slice ai x.items.length ci)/\w'.cell? ⟨b1,o1+k*9+7,none⟩=some (.string x.bytes)/\w'.cell? ⟨b1,o1+k*9+8,none⟩=some (.int .i64 x.bits))/\(w'.cell? ⟨b2,o2+k*9,none⟩=some (.int .i64 x.kind)/\w'.cell? ⟨b2,o2+k*9+1,none⟩=some (.int .i64 x.int)/\w'.cell? ⟨b2,o2+k*9+2,none⟩=some (.int .i64 x.gen)/\w'.cell? ⟨b2,o2+k*9+3,none⟩=some (.string x.name)/\w'.cell? ⟨b2,o2+k*9+4,none⟩=some (.string x.func)/\w'.cell? ⟨b2,o2+k*9+5,none⟩=some (.int .i64 x.arity)/\w'.cell? ⟨b2,o2+k*9+6,none⟩=some (.slice bi x.items.length di)/\w'.cell? ⟨b2,o2+k*9+7,none⟩=some (.string x.bytes)/\w'.cell? ⟨b2,o2+k*9+8,none⟩=some (.int .i64 x.bits))) (((repeat' apply And.intro)<;>assumption)) ((go_at_call 49;refine hSM.mono ?_;rintro e w5 ⟨rfl,hb5⟩;have s0:=(hb5.cell (p:=⟨b1,o1+k*9,none⟩) hb1).trans c0;have s1:=(hb5.cell (p:=⟨b1,o1+k*9+1,none⟩) hb1).trans c1;have s2:=(hb5.cell (p:=⟨b1,o1+k*9+2,none⟩) hb1).trans c2;have s3:=(hb5.cell (p:=⟨b1,o1+k*9+3,none⟩) hb1).trans c3;have s4:=(hb5.cell (p:=⟨b1,o1+k*9+4,none⟩) hb1).trans c4;have s5:=(hb5.cell (p:=⟨b1,o1+k*9+5,none⟩) hb1).trans c5;have s6:=(hb5.cell (p:=⟨b1,o1+k*9+6,none⟩) hb1).trans c6;have s7:=(hb5.cell (p:=⟨b1,o1+k*9+7,none⟩) hb1).trans c7;have s8:=(hb5.cell (p:=⟨b1,o1+k*9+8,none⟩) hb1).trans c8;have t0:=(hb5.cell (p:=⟨b2,o2+k*9,none⟩) hb2).trans d0;have t1:=(hb5.cell (p:=⟨b2,o2+k*9+1,none⟩) hb2).trans d1;have t2:=(hb5.cell (p:=⟨b2,o2+k*9+2,none⟩) hb2).trans d2;have t3:=(hb5.cell (p:=⟨b2,o2+k*9+3,none⟩) hb2).trans d3;have t4:=(hb5.cell (p:=⟨b2,o2+k*9+4,none⟩) hb2).trans d4;have t5:=(hb5.cell (p:=⟨b2,o2+k*9+5,none⟩) hb2).trans d5;have t6:=(hb5.cell (p:=⟨b2,o2+k*9+6,none⟩) hb2).trans d6;have t7:=(hb5.cell (p:=⟨b2,o2+k*9+7,none⟩) hb2).trans d7;have t8:=(hb5.cell (p:=⟨b2,o2+k*9+8,none⟩) hb2).trans d8;have r0:=(hb5.cell (p:=⟨w.heap.size,2,none⟩) hs0).trans q2;have r1:=(hb5.cell (p:=⟨w.heap.size+1,2,none⟩) hs1).trans p2))|fail
   exact zz36
  ·go_wp2_with fail
   go_loopw [6] (fun iv wr=> ∃k:Nat,k<=u.funcs.length/\iv= .int .i64 k/\Below Wx.heap.size Wx wr) (fun iv _=>u.funcs.length-(intOf iv).toNat)
   case atStart=>exact⟨0,zzZ _,rfl,HBR.out⟩
   case round=>
    clear HBR q0 q1 q2 q3 q4 q5 p0 p1 p2 p3 p4 p5 hl0 hl1 hk hlt;obtain⟨k,hk,rfl,hbr⟩:=hrel;rename World=>wr
    have HBR:=zzH hbr;clear hbr;obtain⟨q0,q1,q2,q3,q4,q5⟩:=zbL ((HBR.out.block _ (zb E0.out)).trans E0.out);obtain⟨p0,p1,p2,p3,p4,p5⟩:=zbL ((HBR.out.block _ (zb E1.out)).trans E1.out);have hl0:w.heap.size<wr.heap.size:=zzW (zb E0.out) HBR.out.size;have hl1:w.heap.size+1<wr.heap.size:=zzW (zb E1.out) HBR.out.size;by_cases hlt:k<u.funcs.length
    ·obtain⟨b1,o1,hao,hb1,c0,c1,c2,c3,-,-,-⟩:=(S2.out.mono HBR.out fun _ _ h=>h).func hlt
     obtain⟨b2,o2,hbo,hb2,d0,d1,d2,d3,-,-,-⟩:=(T2.out.mono HBR.out fun _ _ h=>h).func hlt;subst hao;subst hbo;generalize u.funcs[k]=a at *;exact zz37
    ·go_wp2_with fail
     go_loopw [7] (fun iv wr=> ∃k:Nat,k<=u.funs.length/\iv= .int .i64 k/\Below Wx.heap.size Wx wr) (fun iv _=>u.funs.length-(intOf iv).toNat)
     case atStart=>exact⟨0,zzZ _,rfl,HBR.out⟩
     case round=>
      clear HBR q0 q1 q2 q3 q4 q5 p0 p1 p2 p3 p4 p5 hl0 hl1 hk hlt;obtain⟨k,hk,rfl,hbr⟩:=hrel;rename World=>wr
      have HBR:=zzH hbr;clear hbr;obtain⟨q0,q1,q2,q3,q4,q5⟩:=zbL ((HBR.out.block _ (zb E0.out)).trans E0.out);obtain⟨p0,p1,p2,p3,p4,p5⟩:=zbL ((HBR.out.block _ (zb E1.out)).trans E1.out);have hl0:w.heap.size<wr.heap.size:=zzW (zb E0.out) HBR.out.size;have hl1:w.heap.size+1<wr.heap.size:=zzW (zb E1.out) HBR.out.size;by_cases hlt:k<u.funs.length
      ·obtain⟨b1,o1,hao,hb1,c0,c1,c2,-,-,-⟩:=(S3.out.mono HBR.out fun _ _ h=>h).fn hlt
       obtain⟨b2,o2,hbo,hb2,d0,d1,d2,-,-,-⟩:=(T3.out.mono HBR.out fun _ _ h=>h).fn hlt;subst hao;subst hbo;generalize u.funs[k]=a at *;exact zz37
      ·go_wp2_with fail
       go_loopw [8] (fun iv wr=> ∃k:Nat,k<=u.code.length/\iv= .int .i64 k/\Below Wx.heap.size Wx wr) (fun iv _=>u.code.length-(intOf iv).toNat)
       case atStart=>exact⟨0,zzZ _,rfl,HBR.out⟩
       case round=>
        clear HBR q0 q1 q2 q3 q4 q5 p0 p1 p2 p3 p4 p5 hl0 hl1 hk hlt;obtain⟨k,hk,rfl,hbr⟩:=hrel;rename World=>wr
        have HBR:=zzH hbr;clear hbr;obtain⟨q0,q1,q2,q3,q4,q5⟩:=zbL ((HBR.out.block _ (zb E0.out)).trans E0.out);obtain⟨p0,p1,p2,p3,p4,p5⟩:=zbL ((HBR.out.block _ (zb E1.out)).trans E1.out);have hl0:w.heap.size<wr.heap.size:=zzW (zb E0.out) HBR.out.size;have hl1:w.heap.size+1<wr.heap.size:=zzW (zb E1.out) HBR.out.size;by_cases hlt:k<u.code.length
        ·obtain⟨b1,o1,so,sc,co2,cc2,go2,gc2,hao,hb1,c0,c1,c2,c3,c4,c5,c6,c7,c8,c9,s1,s2,s3,r1,r2,r3,r4,r5,r6,r7,r8,r9,r10⟩:=(S4.out.mono HBR.out fun _ _ h=>h.below HBR.out).ins hlt
         obtain⟨b2,o2,so',sc',co2',cc2',go2',gc2',hbo,hb2,d0,d1,d2,d3,d4,d5,d6,d7,d8,d9,t1,t2,t3,-⟩:=(T4.out.mono HBR.out fun _ _ h=>h.below HBR.out).ins hlt;subst hao;subst hbo;have hdr:Below wr.heap.size wr wr.drew:=(zzR _ _).drew;have hSM:=zih u.code[k] so co2 go2 so' co2' go2' sc cc2 gc2 sc' cc2' gc2' wr.drew (s1.mono hdr fun _ _ h=>h) (s2.mono hdr fun _ _ h=>h) (s3.mono hdr fun _ _ h=>h) (t1.mono hdr fun _ _ h=>h) (t2.mono hdr fun _ _ h=>h) (t3.mono hdr fun _ _ h=>h) r4 r9 r10;clear s1 s2 s3 t1 t2 t3 r1 r2 r3 r4 r5 r6 r7 r8 r9 r10 hdr;generalize hx:u.code[k]=x at *;clear hx;go_wp2_with fail;have hs0:=hl0;have hs1:=hl1
         first|go_region_held3 (fun w'=>(w'.cell? ⟨w.heap.size,5,none⟩=some (.slice (some ⟨b1,o1,none⟩) u.code.length cc)/\w'.cell? ⟨w.heap.size+1,5,none⟩=some (.slice (some ⟨b2,o2,none⟩) u.code.length cc'))/\(w'.cell? ⟨b1,o1+k*10,none⟩=some (.int .i64 x.op)/\w'.cell? ⟨b1,o1+k*10+1,none⟩=some (.int .i64 x.dst.kind)/\w'.cell? ⟨b1,o1+k*10+2,none⟩=some (.int .i64 x.dst.n)/\w'.cell? ⟨b1,o1+k*10+3,none⟩=some (.slice so x.src.length sc)/\w'.cell? ⟨b1,o1+k*10+4,none⟩=some (.int .i64 x.to)/\w'.cell? ⟨b1,o1+k*10+5,none⟩=some (.int .i64 x.n)/\w'.cell? ⟨b1,o1+k*10+6,none⟩=some (.int .i64 x.live)/\w'.cell? ⟨b1,o1+k*10+7,none⟩=some (.string x.name)/\w'.cell? ⟨b1,o1+k*10+8,none⟩=some (.slice co2 x.cases.length cc2)/\w'.cell? ⟨b1,o1+k*10+9,none⟩=some (.slice go2 x.segs.length gc2))/\(w'.cell? ⟨b2,o2+k*10,none⟩=some (.int .i64 x.op)/\w'.cell? ⟨b2,o2+k*10+1,none⟩=some (.int .i64 x.dst.kind)/\w'.cell? ⟨b2,o2+k*10+2,none⟩=some (.int .i64 x.dst.n)/\w'.cell? ⟨b2,o2+k*10+3,none⟩=some (.slice so' x.src.length sc')/\w'.cell? ⟨b2,o2+k*10+4,none⟩=some (.int .i64 x.to)/\w'.cell? ⟨b2,o2+k*10+5,none⟩=some (.int .i64 x.n)/\w'.cell? ⟨b2,o2+k*10+6,none⟩=some (.int .i64 x.live)/\w'.cell? ⟨b2,o2+k*10+7,none⟩=some (.string x.name)/\w'.cell? ⟨b2,o2+k*10+8,none⟩=some (.slice co2' x.cases.length cc2')/\w'.cell? ⟨b2,o2+k*10+9,none⟩=some (.slice go2' x.segs.length gc2'))) (((repeat' apply And.intro)<;>assumption)) ((go_at_call 50;refine hSM.mono ?_;rintro e w5 ⟨rfl,hb5⟩;have s0:=(hb5.cell (p:=⟨b1,o1+k*10,none⟩) hb1).trans c0;have s1:=(hb5.cell (p:=⟨b1,o1+k*10+1,none⟩) hb1).trans c1;have s2:=(hb5.cell (p:=⟨b1,o1+k*10+2,none⟩) hb1).trans c2;have s3:=(hb5.cell (p:=⟨b1,o1+k*10+3,none⟩) hb1).trans c3;have s4:=(hb5.cell (p:=⟨b1,o1+k*10+4,none⟩) hb1).trans c4;have s5:=(hb5.cell (p:=⟨b1,o1+k*10+5,none⟩) hb1).trans c5;have s6:=(hb5.cell (p:=⟨b1,o1+k*10+6,none⟩) hb1).trans c6;have s7:=(hb5.cell (p:=⟨b1,o1+k*10+7,none⟩) hb1).trans c7;have s8:=(hb5.cell (p:=⟨b1,o1+k*10+8,none⟩) hb1).trans c8;have s9:=(hb5.cell (p:=⟨b1,o1+k*10+9,none⟩) hb1).trans c9;have t0:=(hb5.cell (p:=⟨b2,o2+k*10,none⟩) hb2).trans d0;have t1:=(hb5.cell (p:=⟨b2,o2+k*10+1,none⟩) hb2).trans d1;have t2:=(hb5.cell (p:=⟨b2,o2+k*10+2,none⟩) hb2).trans d2;have t3:=(hb5.cell (p:=⟨b2,o2+k*10+3,none⟩) hb2).trans d3;have t4:=(hb5.cell (p:=⟨b2,o2+k*10+4,none⟩) hb2).trans d4;have t5:=(hb5.cell (p:=⟨b2,o2+k*10+5,none⟩) hb2).trans d5;have t6:=(hb5.cell (p:=⟨b2,o2+k*10+6,none⟩) hb2).trans d6;have t7:=(hb5.cell (p:=⟨b2,o2+k*10+7,none⟩) hb2).trans d7;have t8:=(hb5.cell (p:=⟨b2,o2+k*10+8,none⟩) hb2).trans d8;have t9:=(hb5.cell (p:=⟨b2,o2+k*10+9,none⟩) hb2).trans d9;have r0:=(hb5.cell (p:=⟨w.heap.size,5,none⟩) hs0).trans q5;have r1:=(hb5.cell (p:=⟨w.heap.size+1,5,none⟩) hs1).trans p5))|fail
         exact zz36
        ·go_wp2_with fail
         go_ret;exact⟨rfl,HBE.out.trans (HBR.out.mono HX0.out)⟩
def zbv (x:RIns):Bool:=
 if x.op=13 then((x.name.toList== [123,125])||((x.name.toList== [124])&&((x.src.length:Int)==2)))||((!(x.name.toList== [43,43])&&zw x.name x.src.length)||(zbs x.name x.src.length==1))
 else if x.op=14 then(zw x.name x.src.length||(zbs x.name x.src.length==1))||(zbs x.name x.src.length==2)
 else if x.op=15 then((x.name.toList== [33])&&(x.n==2))||(zbs x.name x.n==3)
 else true
theorem zj3 (b o:Nat) (x:RIns) (so co go:zzA) (sc cc gc:Nat) (w:World) (hsp:SpaceAt w) (hx:IBox w b o x so co go sc cc gc) (hs:x.name.size<=140737488355328) (hop:x.op=13):
  Calls Tryz.prog 42 #[.pointer (some ⟨b,o,none⟩)] w fun e w'=>e= .returned (.bool (zbv x))/\Below w.heap.size w w':=by
 have c0:=hx.c0;have c3:=hx.c3;have c5:=hx.c5;have c7:=hx.c7;have r2:=hx.rsrc;have hlt:=hx.lt;have hrn:=hx.rn;have hn1:I64 (x.src.length:Int):=by unfold I64;omega
 have E0:Hid (zbv x=(((x.name.toList== [123,125])||((x.name.toList== [124])&&((x.src.length:Int)==2)))||((!(x.name.toList== [43,43])&&zw x.name x.src.length)||(zbs x.name x.src.length==1)))):=zzH (by unfold zbv;rw [if_pos hop]);rw [hop]at c0;have hO:=fun wx=>zdW x.name x.src.length wx
 have hCl:=zdY x.name x.src.length w hsp hs hn1;clear hop hx hsp;generalize zbv x=r at *;generalize zw x.name x.src.length=ob at *;generalize zbs x.name x.src.length=cl at *;generalize x.name=nm at *;generalize x.src.length=ln at *
 cases t1:(nm.toList== [123,125])with
 |true=>
  simp only [t1]at E0;exact zz59
 |false=>
  simp only [t1]at E0
  cases t2:(nm.toList== [124])with
  |true=>
   simp only [t2]at E0
   cases q2:((ln:Int)==2)with
   |true=>
    simp only [q2]at E0;exact zz59
   |false=>
    simp only [q2]at E0;exact zz58
  |false=>
   simp only [t2]at E0;exact zz58
theorem zj8 (b o:Nat) (x:RIns) (so co go:zzA) (sc cc gc:Nat) (w:World) (hsp:SpaceAt w) (hx:IBox w b o x so co go sc cc gc) (hs:x.name.size<=140737488355328) (hop:x.op=14):
  Calls Tryz.prog 42 #[.pointer (some ⟨b,o,none⟩)] w fun e w'=>e= .returned (.bool (zbv x))/\Below w.heap.size w w':=by
 have c0:=hx.c0;have c3:=hx.c3;have c5:=hx.c5;have c7:=hx.c7;have r2:=hx.rsrc;have hlt:=hx.lt;have hrn:=hx.rn;have hn1:I64 (x.src.length:Int):=by unfold I64;omega
 have E0:Hid (zbv x=((zw x.name x.src.length||(zbs x.name x.src.length==1))||(zbs x.name x.src.length==2))):=zzH (by unfold zbv;rw [if_neg (by omega),if_pos hop]);rw [hop]at c0;have hO:=fun wx=>zdW x.name x.src.length wx
 have hCl:=zdY x.name x.src.length w hsp hs hn1;clear hop hsp;have HX:=zzH hx;clear hx;generalize zbv x=r at *;generalize zw x.name x.src.length=ob at *;generalize zbs x.name x.src.length=cl at *;generalize x.src.length=ln at *
 cases ob with
 |true=>
  exact zz61
 |false=>
  cases q1:(cl==1)with
  |true=>
   simp only [q1]at E0;exact zz61
  |false=>
   simp only [q1]at E0
   cases q2:(cl==2)with
   |true=>
    exact zz60
   |false=>
    exact zz60
theorem zkF (b o:Nat) (x:RIns) (so co go:zzA) (sc cc gc:Nat) (w:World) (hsp:SpaceAt w) (hx:IBox w b o x so co go sc cc gc) (hs:x.name.size<=140737488355328) (hop:x.op=15):
  Calls Tryz.prog 42 #[.pointer (some ⟨b,o,none⟩)] w fun e w'=>e= .returned (.bool (zbv x))/\Below w.heap.size w w':=by
 have c0:=hx.c0;have c3:=hx.c3;have c5:=hx.c5;have c7:=hx.c7;have r2:=hx.rsrc;have hlt:=hx.lt;have hrn:=hx.rn;have hn1:I64 (x.src.length:Int):=by unfold I64;omega
 have E0:Hid (zbv x=(((x.name.toList== [33])&&(x.n==2))||(zbs x.name x.n==3))):=zzH (by unfold zbv;rw [if_neg (by omega),if_neg (by omega),if_pos hop]);rw [hop]at c0;have hCl: ∀wx,Below w.heap.size w wx->Calls Tryz.prog 75 #[.string x.name,.int .i64 x.n] wx fun e w'=>e= .returned (.int .i64 (zbs x.name x.n))/\Below w.heap.size w w':=fun wx hb=>(zdY x.name x.n wx (hsp.below hb) hs hrn).mono fun _ _ ⟨h1,h2⟩=>⟨h1,zd hb h2⟩
 have hdr:Below w.heap.size w w.drew:=(zzR _ _).drew;have HDR:=zzH hdr;clear hdr;clear hop hsp hx;generalize zbv x=r at *;generalize zbs x.name x.n=cl at *;generalize x.name=nm at *;generalize x.n=ln at *
 cases t1:(nm.toList== [33])with
 |true=>
  simp only [t1]at E0
  cases q2:(ln==2)with
  |true=>
   simp only [q2]at E0;simp only [zzq15,zzq14,zzq8,zzq12,Bool.and_true,Bool.and_false,zzq11,Bool.false_and]at E0;go_in;go_wp2_with fail;go_quiet (fail);go_wp2;go_ret;exact⟨zi E0.out.symm,zg (zzR _ _) _⟩
  |false=>
   simp only [q2]at E0
   cases q3:(cl==3)with
   |true=>
    exact zz62
   |false=>
    exact zz62
 |false=>
  simp only [t1]at E0;simp only [zzq15,zzq14,zzq8,zzq12,Bool.and_true,Bool.and_false,zzq11,Bool.false_and]at E0;go_in;go_wp2_with fail;have HCL:=zzH hCl;clear hCl c0 c3 r2 hrn hn1;refine wp_region_held_drew (S:=fun w'=>w'.cell? ⟨b,o+7,none⟩=some (.string nm)/\w'.cell? ⟨b,o+5,none⟩=some (.int .i64 ln)) (by kernel_rfl) ⟨by simpa using c7,by simpa using c5⟩ (fun hHeld=>?_);refine wpAnyH_take (i:=0) (v:=?v0) rfl (by kernel_rfl) (by kernel_rfl) (by kernel_rfl) (fun _ _ _ h=>h) (Or.inl ⟨by rfl,?y0⟩) hHeld ?_
  case y0=>(intro w hSw;(try dsimp only at hSw);go_simp;try with_reducible rfl)
  simp only [zzX0];refine wpAnyH_take (i:=1) (v:=?v1) rfl (by kernel_rfl) (by kernel_rfl) (by kernel_rfl) (fun _ _ _ h=>h) (Or.inl ⟨by rfl,?y1⟩) hHeld ?_
  case y1=>(intro w hSw;(try dsimp only at hSw);go_simp;try with_reducible rfl)
  simp only [zzX0];refine wpAnyH_take (i:=2) (v:=?v2) rfl (by kernel_rfl) (by kernel_rfl) (by kernel_rfl) (fun _ _ _ h=>h) (Or.inl ⟨by rfl,?y2⟩) hHeld ?_
  case y2=>(intro w hSw;(try dsimp only at hSw);go_simp;try with_reducible rfl)
  simp only [zzX0];refine wpAnyH_take (i:=3) (v:=?v3) rfl (by kernel_rfl) (by kernel_rfl) (by kernel_rfl) (fun _ _ _ h=>h) (Or.inl ⟨by rfl,?y3⟩) hHeld ?_
  case y3=>(intro w hSw;(try dsimp only at hSw);go_simp;try with_reducible rfl)
  simp only [zzX0];refine wpAnyH_take (i:=4) (v:=?v4) rfl (by kernel_rfl) (by kernel_rfl) (by kernel_rfl) (fun _ _ _ h=>h) (Or.inl ⟨by rfl,?y4⟩) hHeld ?_
  case y4=>(intro w hSw;(try dsimp only at hSw);go_simp;try with_reducible rfl)
  simp only [zzX0];refine wpAnyH_take (i:=5) (v:=?v5) rfl (by kernel_rfl) (by kernel_rfl) (by kernel_rfl) (fun _ _ _ h=>h) (Or.inl ⟨by rfl,?y5⟩) hHeld ?_
  case y5=>(intro w hSw;(try dsimp only at hSw);go_simp;try with_reducible rfl)
  simp only [zzX0];refine wpAnyH_take (i:=6) (v:=undef) rfl (by kernel_rfl) (by kernel_rfl) (by kernel_rfl) (fun _ _ _ h=>h) (Or.inr ⟨by kernel_rfl,rfl⟩) hHeld ?_;simp only [zzX0];refine wpAnyH_take (i:=7) (v:=undef) rfl (by kernel_rfl) (by kernel_rfl) (by kernel_rfl) (fun _ _ _ h=>h) (Or.inr ⟨by kernel_rfl,rfl⟩) hHeld ?_;simp only [zzX0];refine wpAnyH_take (i:=8) (v:=undef) rfl (by kernel_rfl) (by kernel_rfl) (by kernel_rfl) (fun _ _ _ h=>h) (Or.inr ⟨by kernel_rfl,rfl⟩) hHeld ?_;simp only [zzX0];refine wpAnyH_take (i:=9) (v:=undef) rfl (by kernel_rfl) (by kernel_rfl) (by kernel_rfl) (fun _ _ _ h=>h) (Or.inr ⟨by kernel_rfl,rfl⟩) hHeld ?_;simp only [zzX0];refine wpAnyH_take (i:=10) (v:=undef) rfl (by kernel_rfl) (by kernel_rfl) (by kernel_rfl) (fun _ _ _ h=>h) (Or.inr ⟨by kernel_rfl,rfl⟩) hHeld ?_;simp only [zzX0];refine wpAnyH_take (i:=11) (v:=?v11) rfl (by kernel_rfl) (by kernel_rfl) (by kernel_rfl) (fun _ _ _ h=>h) (Or.inl ⟨by rfl,?y11⟩) hHeld ?_
  case y11=>(intro w hSw;(try dsimp only at hSw);go_simp;try with_reducible rfl)
  simp only [zzX0];refine wpAnyH_take (i:=12) (v:=?v12) rfl (by kernel_rfl) (by kernel_rfl) (by kernel_rfl) (fun _ _ _ h=>h) (Or.inl ⟨by rfl,?y12⟩) hHeld ?_
  case y12=>(intro w hSw;(try dsimp only at hSw);go_simp;try with_reducible rfl)
  simp only [zzX0];refine wpAnyH_take (i:=13) (v:=?v13) rfl (by kernel_rfl) (by kernel_rfl) (by kernel_rfl) (fun _ _ _ h=>h) (Or.inl ⟨by rfl,?y13⟩) hHeld ?_
  case y13=>(intro w hSw;(try dsimp only at hSw);go_simp;try with_reducible rfl)
  simp only [zzX0];refine wpAnyH_take (i:=14) (v:=?v14) rfl (by kernel_rfl) (by kernel_rfl) (by kernel_rfl) (fun _ _ _ h=>h) (Or.inl ⟨by rfl,?y14⟩) hHeld ?_
  case y14=>(intro w hSw;(try dsimp only at hSw);go_simp;try with_reducible rfl)
  simp only [zzX0];refine wpAnyH_take (i:=15) (v:=?v15) rfl (by kernel_rfl) (by kernel_rfl) (by kernel_rfl) (fun _ _ _ h=>h) (Or.inl ⟨by rfl,?y15⟩) hHeld ?_
  case y15=>(intro w hSw;(try dsimp only at hSw);go_simp;try with_reducible rfl)
  simp only [zzX0];refine wpAnyH_take (i:=16) (v:=?v16) rfl (by kernel_rfl) (by kernel_rfl) (by kernel_rfl) (fun _ _ _ h=>h) (Or.inl ⟨by rfl,?y16⟩) hHeld ?_
  case y16=>(intro w hSw;(try dsimp only at hSw);go_simp;try with_reducible rfl)
  simp only [zzX0];refine wpAnyH_take (i:=17) (v:=?v17) rfl (by kernel_rfl) (by kernel_rfl) (by kernel_rfl) (fun _ _ _ h=>h) (Or.inl ⟨by rfl,?y17⟩) hHeld ?_
  case y17=>(intro w hSw;(try dsimp only at hSw);go_simp;try with_reducible rfl)
  simp only [zzX0];refine wpAnyH_take (i:=18) (v:=?v18) rfl (by kernel_rfl) (by kernel_rfl) (by kernel_rfl) (fun _ _ _ h=>h) (Or.inl ⟨by rfl,?y18⟩) hHeld ?_
  case y18=>(intro w hSw;(try dsimp only at hSw);go_simp;try with_reducible rfl)
  simp only [zzX0];refine wpAnyH_take (i:=19) (v:=?v19) rfl (by kernel_rfl) (by kernel_rfl) (by kernel_rfl) (fun _ _ _ h=>h) (Or.inl ⟨by rfl,?y19⟩) hHeld ?_
  case y19=>(intro w hSw;(try dsimp only at hSw);go_simp;try with_reducible rfl)
  simp only [zzX0];refine wpAnyH_take (i:=20) (v:=?v20) rfl (by kernel_rfl) (by kernel_rfl) (by kernel_rfl) (fun _ _ _ h=>h) (Or.inl ⟨by rfl,?y20⟩) hHeld ?_
  case y20=>(intro w hSw;(try dsimp only at hSw);go_simp;try with_reducible rfl)
  simp only [zzX0];refine wpAnyH_ready (rs:=[21]) (by kernel_rfl) (by simp) ?_;refine AllReadyH.cons rfl (fun K hK=>?_) AllReadyH.nil;simp only [zzX2];go_simp;refine(HCL.out _ HDR.out).mono ?_;rintro e w5 ⟨rfl,hb5⟩;go_wp2_with fail;refine hK.out _ _ ⟨(hb5.cell (p:=⟨b,o+7,none⟩) hlt).trans c7,(hb5.cell (p:=⟨b,o+5,none⟩) hlt).trans c5⟩ (fun hHeld2=>?_);clear hK K hHeld
  try simp only [zzX0]
  refine wpAnyH_take (i:=22) (v:=?v22) rfl (by kernel_rfl) (by kernel_rfl) (by kernel_rfl) (fun _ _ _ h=>h) (Or.inl ⟨by rfl,?y22⟩) hHeld2 ?_
  case y22=>(intro w hSw;(try dsimp only at hSw);go_simp;try with_reducible rfl)
  simp only [zzX0];refine wpAnyH_take (i:=23) (v:=?v23) rfl (by kernel_rfl) (by kernel_rfl) (by kernel_rfl) (fun _ _ _ h=>h) (Or.inl ⟨by rfl,?y23⟩) hHeld2 ?_
  case y23=>(intro w hSw;(try dsimp only at hSw);go_simp;try with_reducible rfl)
  simp only [zzX0];refine wpAnyH_take (i:=24) (v:=?v24) rfl (by kernel_rfl) (by kernel_rfl) (by kernel_rfl) (fun _ _ _ h=>h) (Or.inl ⟨by rfl,?y24⟩) hHeld2 ?_
  case y24=>(intro w hSw;(try dsimp only at hSw);go_simp;try with_reducible rfl)
  simp only [zzX0];refine wpAnyH_done (by kernel_rfl) ?_ _;go_wp2;go_ret;exact⟨zi E0.out.symm,hb5⟩
theorem zia (b o:Nat) (x:RIns) (so co go:zzA) (sc cc gc:Nat) (w:World) (hsp:SpaceAt w) (hx:IBox w b o x so co go sc cc gc) (hs:x.name.size<=140737488355328) (h13: ¬x.op=13) (h14: ¬x.op=14) (h15: ¬x.op=15):
  Calls Tryz.prog 42 #[.pointer (some ⟨b,o,none⟩)] w fun e w'=>e= .returned (.bool (zbv x))/\Below w.heap.size w w':=by
 have c0:=hx.c0;have c3:=hx.c3;have c5:=hx.c5;have c7:=hx.c7;have r2:=hx.rsrc;have hlt:=hx.lt;have hrn:=hx.rn;have hn1:I64 (x.src.length:Int):=by unfold I64;omega
 have E0:Hid (zbv x=true):=zzH (by unfold zbv;rw [if_neg h13,if_neg h14,if_neg h15]);have t13:(x.op==13)=false:=zzB.2 h13;have t14:(x.op==14)=false:=zzB.2 h14;have t15:(x.op==15)=false:=zzB.2 h15;clear h13 h14 h15 hx hsp;go_in;go_wp2;go_ret;exact⟨zi E0.out.symm,zzR _ _⟩
theorem zjI (b o:Nat) (x:RIns) (so co go:zzA) (sc cc gc:Nat) (w:World) (hsp:SpaceAt w) (hx:IBox w b o x so co go sc cc gc) (hs:x.name.size<=140737488355328):
  Calls Tryz.prog 42 #[.pointer (some ⟨b,o,none⟩)] w fun e w'=>e= .returned (.bool (zbv x))/\Below w.heap.size w w':=by
 by_cases h13:x.op=13
 ·exact zj3 b o x so co go sc cc gc w hsp hx hs h13
 by_cases h14:x.op=14
 ·exact zj8 b o x so co go sc cc gc w hsp hx hs h14
 by_cases h15:x.op=15
 ·exact zkF b o x so co go sc cc gc w hsp hx hs h15
 exact zia b o x so co go sc cc gc w hsp hx hs h13 h14 h15
def ziw (code:List RIns) (i:Int):Int:=((code[i.toNat]?).map RIns.op).getD 0
def zbx (code:List RIns) (i:Nat) (x:RIns) (h:Nat):Bool:=
 if x.op=39\/x.op=40 then wi x.to 0 ((code.length:Int)-1)&&(ziw code x.to==37)
 else x.cases.all (fun c=>wi c.to ((i:Int)+1) ((code.length:Int)-1))&&(!zj h 64||wi x.to ((i:Int)+1) ((code.length:Int)-1))
theorem zgr (B:Nat) (u:RUnit) (lo fo go:zzA) (lc fc gc cc:Nat) (bc oc:Nat) (i:Nat) (h l' h':Int) (so co' go':zzA) (sc cc' gc':Nat) (w:World) (hu:UBox w B u lo fo go (some ⟨bc,oc,none⟩) lc fc gc cc) (hcode:SlAt w 10 (InsR w) (some ⟨bc,oc,none⟩) u.code) (hl:u.code.length<=9223372036854775807) (hi:i<u.code.length)
  (x:RIns) (hx:IBox w bc (oc+i*10) x so co' go' sc cc' gc') (hop:x.op=39\/x.op=40) (hn:Nat):
  Calls Tryz.prog 44 #[.pointer (some ⟨B,0,none⟩),.int .i64 i,.agg #[.int .i64 h,.int .i64 l',.int .i64 h']] w fun e w'=>e= .returned (.bool (zbx u.code i x hn))/\Below w.heap.size w w':=by
 have hbe:Below w.heap.size w (w.alloc (.cells #[.int .i64 h,.int .i64 l',.int .i64 h'] 97)):=zzE _ _;have b5:=(hu.below hbe).c5;have hxb:=hx.below hbe;have c0:=hxb.c0;have c4:=hxb.c4;have hBl:=(hu.below hbe).lt;have hbl:=hxb.lt;have hw1:=zzV u.code.length (by omega)
 have hwc:=fun wx=>zl x.to 0 ((u.code.length:Int)-1) wx
 have HBE:=zzH hbe;have E0:Hid (zbx u.code i x hn=(wi x.to 0 ((u.code.length:Int)-1)&&(ziw u.code x.to==37))):=zzH (by unfold zbx;rw [if_pos hop]);have HCO:=zzH hcode;clear hu hx hxb hcode;generalize hxo:x.op=xo at *;have hE: ∀j,j<u.code.length->True:=fun _ _=>trivial
 clear hE hxo;by_cases hin:0<=x.to/\x.to<=(u.code.length:Int)-1
 ·have hwi:=zeR hin.1 hin.2
  rw [hwi]at hwc;obtain⟨m,hm⟩: ∃m:Nat,x.to=(m:Int):=⟨x.to.toNat,by omega⟩;have hml:m<u.code.length:=by omega
  obtain⟨b2,o2,so2,co2,go2,sc2,cc2,gc2,hao,hmx⟩:=zdz HCO.out hml;obtain⟨rfl,rfl⟩:bc=b2/\oc=o2:=by injection hao with h;injection h with h1 h2;exact⟨h1,h2⟩
  have d0:=(hmx.below HBE.out).c0;have hop2:ziw u.code x.to=(u.code[m]).op:=by unfold ziw;rw [hm,zzq13,zzq4 hml];rfl
  rw [hwi,hop2,zzq11]at E0;rw [hm]at hwc c4;generalize(u.code[m]).op=oo at *;have E1:=zzH E0.out;clear hmx hao hin hwi hop2 hm HCO E0;generalize zbx u.code i x hn=r at *
  cases hq:(oo==37)
  all_goals
   rw [hq]at E1;rcases hop with rfl|rfl
   all_goals
    go_in;go_wp2_with fail;go_quiet (fail);have HQ:=zzH (zg HBE.out nq);have b5':((w.alloc (.cells #[.int .i64 h,.int .i64 l',.int .i64 h'] 97)).drewN nq).cell? ⟨B,5,none⟩=some (.slice (some ⟨bc,oc,none⟩) u.code.length cc):=b5;have c0':((w.alloc (.cells #[.int .i64 h,.int .i64 l',.int .i64 h'] 97)).drewN nq).cell? ⟨bc,oc+i*10,none⟩=_:=c0;have c4':((w.alloc (.cells #[.int .i64 h,.int .i64 l',.int .i64 h'] 97)).drewN nq).cell? ⟨bc,oc+i*10+4,none⟩=_:=c4;have d0':((w.alloc (.cells #[.int .i64 h,.int .i64 l',.int .i64 h'] 97)).drewN nq).cell? ⟨bc,oc+m*10,none⟩=_:=d0;clear b5 c0 c4 d0 HBE;generalize(w.alloc (.cells #[.int .i64 h,.int .i64 l',.int .i64 h'] 97)).drewN nq=W1 at *;go_wp2_with fail;go_quiet ((go_at_call 71;exact zze ((hwc _).mono fun _ _ ⟨a,b⟩=>⟨a,b.symm⟩)));go_wp2;go_ret;exact⟨zi E1.out.symm,zg HQ.out _⟩
 ·have hwi:=zdJ hin
  rw [hwi]at hwc;rw [hwi,Bool.false_and]at E0;have E1:=zzH E0.out;clear hin hwi HCO E0;generalize zbx u.code i x hn=r at *;rcases hop with rfl|rfl
  all_goals
   go_in;go_wp2_with fail;go_quiet (fail);have HQ:=zzH (zg HBE.out nq);have b5':((w.alloc (.cells #[.int .i64 h,.int .i64 l',.int .i64 h'] 97)).drewN nq).cell? ⟨B,5,none⟩=some (.slice (some ⟨bc,oc,none⟩) u.code.length cc):=b5;have c0':((w.alloc (.cells #[.int .i64 h,.int .i64 l',.int .i64 h'] 97)).drewN nq).cell? ⟨bc,oc+i*10,none⟩=_:=c0;have c4':((w.alloc (.cells #[.int .i64 h,.int .i64 l',.int .i64 h'] 97)).drewN nq).cell? ⟨bc,oc+i*10+4,none⟩=_:=c4;clear b5 c0 c4 HBE;generalize(w.alloc (.cells #[.int .i64 h,.int .i64 l',.int .i64 h'] 97)).drewN nq=W1 at *;go_wp2_with fail;go_quiet ((go_at_call 71;exact zze ((hwc _).mono fun _ _ ⟨a,b⟩=>⟨a,b.symm⟩)));go_wp2;go_ret;exact⟨zi E1.out.symm,zg HQ.out _⟩
theorem zgt (B:Nat) (u:RUnit) (lo fo go:zzA) (lc fc gc cc:Nat) (bc oc:Nat) (i:Nat) (hn:Nat) (l' h':Int) (so co' go':zzA) (sc cc' gc':Nat) (w:World) (hu:UBox w B u lo fo go (some ⟨bc,oc,none⟩) lc fc gc cc) (hl:u.code.length<=9223372036854775807) (hi:i<u.code.length)
  (x:RIns) (hx:IBox w bc (oc+i*10) x so co' go' sc cc' gc') (hop: ¬(x.op=39\/x.op=40)) (hh:hn<1000):
  Calls Tryz.prog 44 #[.pointer (some ⟨B,0,none⟩),.int .i64 i,.agg #[.int .i64 hn,.int .i64 l',.int .i64 h']] w fun e w'=>e= .returned (.bool (zbx u.code i x hn))/\Below w.heap.size w w':=by
 have hbe:Below w.heap.size w (w.alloc (.cells #[.int .i64 hn,.int .i64 l',.int .i64 h'] 97)):=zzE _ _;have hbr:=zzF w (.cells #[.int .i64 hn,.int .i64 l',.int .i64 h'] 97);have b5:=(hu.below hbe).c5;have hxb:=hx.below hbe;have c0:=hxb.c0;have hBl:=(hu.below hbe).lt;have hbl:=hxb.lt;have rc:=hxb.rcases;have t39:(x.op==39)=false:=zzB.2 (fun h=>hop (.inl h));have t40:(x.op==40)=false:=zzB.2 (fun h=>hop (.inr h));have hw1:=zzV u.code.length (by omega)
 have hwc:=fun n wx=>zl n ((i:Int)+1) ((u.code.length:Int)-1) wx
 refine zzK3 hbe hbr hxb fun HBE HBR HX=>?_;have ha:bits .and .i64 (hn:Int) 64=((hn&&&64:Nat):Int):=zhD hn 64 (by omega) (by omega)
 have hab:((((hn&&&64:Nat):Int))==0)= !zj hn 64:=by
  unfold zj;by_cases c:hn&&&64=0
  ·rw [c];rfl
  ·rw [decide_eq_true c];show _=false;rw [zzq1];omega
 have E0:Hid (zbx u.code i x hn=(x.cases.all (fun c=>wi c.to ((i:Int)+1) ((u.code.length:Int)-1))&&(!zj hn 64||wi x.to ((i:Int)+1) ((u.code.length:Int)-1)))):=zzH (by unfold zbx;rw [if_neg hop]);have HAB:=zzH hab;have HI:Hid (x.cases.all (fun c=>wi c.to ((i:Int)+1) ((u.code.length:Int)-1))=(x.cases.drop 0).all (fun c=>wi c.to ((i:Int)+1) ((u.code.length:Int)-1))):=zzH rfl;clear hu hx hxb hop hab hbr hbe;generalize zbx u.code i x hn=r at *;go_in;go_wp2_with fail;go_quiet (fail);have HQ:=zzH (zg HBE.out nq);have HQ2:Hid (Below (w.alloc (.cells #[.int .i64 hn,.int .i64 l',.int .i64 h'] 97)).heap.size (w.alloc (.cells #[.int .i64 hn,.int .i64 l',.int .i64 h'] 97)) ((w.alloc (.cells #[.int .i64 hn,.int .i64 l',.int .i64 h'] 97)).drewN nq)):=zzH (zg (zzR _ _) nq);have HX1:=zzH (HX.out.below HQ2.out);have HR1:Hid (((w.alloc (.cells #[.int .i64 hn,.int .i64 l',.int .i64 h'] 97)).drewN nq).heap[w.heap.size]?=some (.cells #[.int .i64 hn,.int .i64 l',.int .i64 h'] 97 (0,0))):=zzH HBR.out
 clear b5 c0 HBE HQ2 HX HBR hBl hbl;generalize(w.alloc (.cells #[.int .i64 hn,.int .i64 l',.int .i64 h'] 97)).drewN nq=W1 at *;have c0:=HX1.out.c0;have c8:=HX1.out.c8;have hwi2:IntKind.i64.wrap ((i:Int)+1)=(i:Int)+1:=by rw [zzq5];omega
 go_wp2_with fail;go_loopw [55] (fun j wr=> ∃k:Nat,k<=x.cases.length/\j= .int .i64 k/\Hid (x.cases.all (fun c=>wi c.to ((i:Int)+1) ((u.code.length:Int)-1))=(x.cases.drop k).all (fun c=>wi c.to ((i:Int)+1) ((u.code.length:Int)-1)))/\Below W1.heap.size W1 wr) (fun j _=>x.cases.length-(intOf j).toNat)
 case atStart=>exact⟨0,zzZ _,rfl,HI,zzR _ _⟩
 case round=>
  obtain⟨k,hk,rfl,HK,hBw⟩:=hrel;rename World=>wr
  by_cases hlt:k<x.cases.length
  ·obtain⟨b1,off1,hco,hb1,q0,q1,rl,rt⟩:=(HX1.out.below hBw).cases.case hlt
   subst hco;have HST:Hid ((x.cases.drop k).all (fun c=>wi c.to ((i:Int)+1) ((u.code.length:Int)-1))=(wi x.cases[k].to ((i:Int)+1) ((u.code.length:Int)-1)&&(x.cases.drop (k+1)).all (fun c=>wi c.to ((i:Int)+1) ((u.code.length:Int)-1)))):=zzH (by rw [List.drop_eq_getElem_cons hlt,List.all_cons]);have hwc1:=fun wx=>hwc x.cases[k].to wx
   generalize wi x.cases[k].to ((i:Int)+1) ((u.code.length:Int)-1)=q at *;generalize x.cases[k].to=ct at *;generalize x.cases[k].lit=cl at *;have HBA:Hid (Below W1.heap.size W1 (wr.alloc (.cells #[.int .i64 cl,.int .i64 ct] 111))):=zzH (hBw.alloc hBw.size _)
   cases q with
   |true=>
    have HK2:Hid (x.cases.all (fun c=>wi c.to ((i:Int)+1) ((u.code.length:Int)-1))=(x.cases.drop (k+1)).all (fun c=>wi c.to ((i:Int)+1) ((u.code.length:Int)-1))):=zzH (by rw [HK.out,HST.out,zzq11]);go_wp2_with (go_at_call 71;refine(hwc1 _).mono ?_;rintro e w1 ⟨rfl,rfl⟩);go_roundw
    case rel=>exact⟨k+1,by omega,by go_num,HK2,HBA.out⟩
    case measure=>simp [intOf];omega
   |false=>
    have E:Hid (r=false):=zzH (by rw [E0.out,HK.out,HST.out];rfl);go_wp2_with (go_at_call 71;refine(hwc1 _).mono ?_;rintro e w1 ⟨rfl,rfl⟩);go_ret;exact⟨zi E.out.symm,HQ.out.trans (HBA.out.mono HQ.out.size)⟩
  ·have EK:Hid (r=(!zj hn 64||wi x.to ((i:Int)+1) ((u.code.length:Int)-1))):=zzH (by rw [E0.out,HK.out,zzq10 (by omega)];rfl)
   have hr:=(hBw.block w.heap.size (zb HR1.out)).trans HR1.out;have n0:wr.cell? ⟨w.heap.size,0,none⟩=some (.int .i64 hn):=by rw [zzq0 _ _ _ _ _ _ hr];rfl
   have c4:=(HX1.out.below hBw).c4;have hwc1:=fun wx=>hwc x.to wx
   have hab:=HAB.out;generalize wi x.to ((i:Int)+1) ((u.code.length:Int)-1)=q at *;generalize zj hn 64=hb at *;clear hr;generalize hn&&&64=z at *
   cases hb with
   |false=>
    have E:Hid (r=true):=zzH (by rw [EK.out];rfl);go_wp2;go_ret;exact⟨zi E.out.symm,HQ.out.trans (hBw.mono HQ.out.size)⟩
   |true=>
    have E:Hid (r=q):=zzH (by rw [EK.out];rfl);go_wp2_with (go_at_call 71;refine(hwc1 _).mono ?_;rintro e w1 ⟨rfl,rfl⟩);go_ret;exact⟨zi E.out.symm,HQ.out.trans (hBw.mono HQ.out.size)⟩
theorem zg4 (B:Nat) (u:RUnit) (lo fo go:zzA) (lc fc gc cc:Nat) (bc oc:Nat) (i:Nat) (hn:Nat) (l' h':Int) (so co' go':zzA) (sc cc' gc':Nat) (w:World) (hu:UBox w B u lo fo go (some ⟨bc,oc,none⟩) lc fc gc cc) (hcode:SlAt w 10 (InsR w) (some ⟨bc,oc,none⟩) u.code) (hl:u.code.length<=9223372036854775807) (hi:i<u.code.length)
  (x:RIns) (hx:IBox w bc (oc+i*10) x so co' go' sc cc' gc') (hh:hn<1000):
  Calls Tryz.prog 44 #[.pointer (some ⟨B,0,none⟩),.int .i64 i,.agg #[.int .i64 hn,.int .i64 l',.int .i64 h']] w fun e w'=>e= .returned (.bool (zbx u.code i x hn))/\Below w.heap.size w w':=by
 by_cases hop:x.op=39\/x.op=40
 ·exact zgr B u lo fo go lc fc gc cc bc oc i hn l' h' so co' go' sc cc' gc' w hu hcode hl hi x hx hop hn
 ·exact zgt B u lo fo go lc fc gc cc bc oc i hn l' h' so co' go' sc cc' gc' w hu hl hi x hx hop hh
open Go.RowKit Go.ChangeShapes Go.WideShapes
section
variable {H:Type} {enc:TypeId × Value->H} {P:Program} {w:World} {base:Nat} {spare:Nat->Bool} {held:Bool}
theorem zc8 {t e:TypeId} {fuel:Nat} {cs:List Value} {x:DataW H × List MemPlace} (ht:P.underlying t=some (.slice e)) (h:DataW.trod enc P w base spare held fuel t cs=some x) (hw:Wt P t x.1) {ao:zzA} {n c:Nat} (hc:cs= [.slice ao n c]):n*P.bytesOf e<=140737488355328:=by
 rcases DataW.trod_slice ht h with⟨e1,_⟩|⟨a,len,cap,elems,rest,m,hf,e1,hx,hb,hl,hm,hlen,hel,_,_⟩
 ·rw [e1]at hc
  obtain⟨rfl,rfl,rfl⟩:none=ao/\0=n/\0=c:=by simpa using hc
  omega
 ·rw [e1]at hc
  obtain⟨rfl,rfl,rfl⟩:some a=ao/\len=n/\cap=c:=by simpa using hc
  rw [hx]at hw;unfold Wt DataW.weights at hw;simp only [ht]at hw;rw [List.all_cons,zzq6]at hw;have h1:=zza hw.1;unfold reachBytes at h1;have h2:len<=(elems.map (·.1)).length+(rest.map (·.1)).length:=by simp;omega
  exact zzY (Nat.mul_le_mul_right _ h2) (zzY h1 (by decide))
end
theorem zmi:Tryz.prog.bytesOf 42=16:=by kernel_rfl
theorem zl7:Tryz.prog.bytesOf 111=16:=by kernel_rfl
theorem zmq:Tryz.prog.bytesOf 113=48:=by kernel_rfl
theorem zl5:Tryz.prog.bytesOf 106=40:=by kernel_rfl
theorem zmr:Tryz.prog.bytesOf 70=24:=by kernel_rfl
theorem zmg:Tryz.prog.bytesOf 47=136:=by kernel_rfl
section
variable {H:Type} {enc:TypeId × Value->H} {w:World} {base fuel:Nat} {spare:Nat->Bool} {held:Bool} {cs:List Value} {x:DataW H × List MemPlace}
def zlU (w:World) (cs:List Value) (x:RIns):Prop:=InsR w cs x/\x.name.size<=140737488351232/\x.src.length*16<=140737488355328/\x.cases.length*16<=140737488355328/\x.segs.length*48<=140737488355328
theorem zjv (h:DataW.trod enc Tryz.prog w base spare held fuel 47 cs=some x) (hw:Wt Tryz.prog 47 x.1): ∃a,zlU w cs a:=by
 obtain⟨n,rfl,hl,hf⟩:=zbR Tryz.underlying47 h hw;rw [zlP]at hl;obtain⟨a,b,c,d,e,f,g,i,j,k,rfl⟩:=zl6 hl;obtain⟨y0,h0,_⟩:=hf 0 _ 3 0 1 rfl rfl rfl cI;obtain⟨y1,h1,w1⟩:=hf 1 _ 42 1 2 rfl rfl rfl zgV;obtain⟨y2,h2,w2⟩:=hf 2 _ 43 3 1 rfl rfl rfl zl3;obtain⟨y3,h3,_⟩:=hf 3 _ 3 4 1 rfl rfl rfl cI;obtain⟨y4,h4,_⟩:=hf 4 _ 3 5 1 rfl rfl rfl cI;obtain⟨y5,h5,_⟩:=hf 5 _ 3 6 1 rfl rfl rfl cI;obtain⟨y6,h6,w6⟩:=hf 6 _ 9 7 1 rfl rfl rfl cS;obtain⟨y7,h7,w7⟩:=hf 7 _ 44 8 1 rfl rfl rfl zlR;obtain⟨y8,h8,w8⟩:=hf 8 _ 45 9 1 rfl rfl rfl zmb;obtain⟨n0,e0,i0⟩:=zbh Tryz.underlying3 h0;obtain⟨a1,e1,i1,j1⟩:=zdC h1 w1;obtain⟨so,sc,l2,e2,s2,b2⟩:=zcd zcB Tryz.underlying43 zgV (by decide) h2 w2 (fun n cs' y _ _ hy wy=>zdC hy wy);obtain⟨n3,e3,i3⟩:=zbh Tryz.underlying3 h3;obtain⟨n4,e4,i4⟩:=zbh Tryz.underlying3 h4;obtain⟨n5,e5,i5⟩:=zbh Tryz.underlying3 h5;obtain⟨s6,e6,i6⟩:=zjj Tryz.underlying9 h6 w6;obtain⟨co,cc,l7,e7,s7,b7⟩:=zcd zbP Tryz.underlying44 zkT (by decide) h7 w7 (fun n cs' y _ _ hy wy=>zjQ hy wy);obtain⟨go,gc,l8,e8,s8,b8⟩:=zcd zcD Tryz.underlying45 zlE (by decide) h8 w8 (fun n cs' y _ _ hy wy=>zj7 hy wy);have g2:=zc8 Tryz.underlying43 h2 w2 e2;have g7:=zc8 Tryz.underlying44 h7 w7 e7;have g8:=zc8 Tryz.underlying45 h8 w8 e8;rw [zmi]at g2;rw [zl7]at g7;rw [zmq]at g8;obtain rfl:=zG e0;obtain rfl:=zG e2;obtain rfl:=zG e3;obtain rfl:=zG e4;obtain rfl:=zG e5;obtain rfl:=zG e6;obtain rfl:=zG e7;obtain rfl:=zG e8;have e1': [b,c]= [Value.int .i64 a1.kind,.int .i64 a1.n]:=e1;simp only [List.cons.injEq,and_true]at e1';obtain⟨rfl,rfl⟩:=e1';exact⟨⟨n0,a1,l2,n3,n4,n5,s6,l7,l8⟩,⟨⟨so,sc,co,cc,go,gc,rfl,s2,s7,s8⟩,i0,i1,j1,b2,i3,i4,i5,zzY i6 (by decide),b7,b8⟩,i6,g2,g7,g8⟩
end
theorem zhN {H:Type} {enc:TypeId × Value->H} {W:World} {base b0:Nat} {spare:Nat->Bool} {held:Bool} {r:Reach} {v:Value} {d:DataW H} {p:List MemPlace}
  (hv:Value.okWide Tryz.prog W r b0 27 v) (h:DataW.Trod enc Tryz.prog W base spare held 27 v d p) (hw:Wt Tryz.prog 27 d):
  ∃(u:RUnit) (lo fo go co:zzA) (lc fc gc cc:Nat),v= .agg #[.string u.mdl,.int .i64 u.vsn,.slice lo u.lits.length lc,.slice fo u.funcs.length fc,.slice go u.funs.length gc,.slice co u.code.length cc]/\UP W u lo fo go co/\zeI u/\ ∀x∈u.code,x.name.size<=140737488351232:=by
 obtain⟨cs,rfl,_⟩: ∃cs,v= .agg cs/\True:=by
  unfold Value.okWide at hv;simp only [Tryz.underlying27]at hv;obtain⟨cs,e,_⟩:=hv;exact⟨cs,e,trivial⟩
 obtain⟨fuel,hf0⟩:=h;obtain⟨n,rfl,hl,hf⟩:=zbR Tryz.underlying27 hf0 hw;rw [zmd]at hl;have hcs:(Value.agg cs).cells.toList=cs.toList:=rfl;rw [hcs]at hl hf;obtain⟨a,b,c,e,f,g,hcl⟩:=zlW hl;obtain rfl:cs=#[a,b,c,e,f,g]:=Array.toList_inj.1 hcl;obtain⟨y0,h0,w0⟩:=hf 0 _ 9 0 1 rfl rfl rfl cS;obtain⟨y1,h1,_⟩:=hf 1 _ 2 1 1 rfl rfl rfl zkf;obtain⟨y2,h2,w2⟩:=hf 2 _ 22 2 1 rfl rfl rfl zjF;obtain⟨y3,h3,w3⟩:=hf 3 _ 23 3 1 rfl rfl rfl zlH;obtain⟨y4,h4,w4⟩:=hf 4 _ 24 4 1 rfl rfl rfl zl8;obtain⟨y5,h5,w5⟩:=hf 5 _ 25 5 1 rfl rfl rfl zl9;obtain⟨s0,e0,i0⟩:=zdl Tryz.underlying9 h0;obtain⟨n1,e1,i1⟩:=zbh Tryz.underlying2 h1;obtain⟨lo,lc,l2,e2,s2,b2⟩:=zcd (TmA W) Tryz.underlying22 zib (by decide) h2 w2 (fun m cs' y hm _ hy wy=>zli m hy wy);obtain⟨fo,fc,l3,e3,s3,b3⟩:=zcd zcl Tryz.underlying23 zkZ (by decide) h3 w3 (fun m cs' y hm _ hy wy=>zjo hy wy);obtain⟨go,gc,l4,e4,s4,b4⟩:=zcd zbB Tryz.underlying24 zlB (by decide) h4 w4 (fun m cs' y hm _ hy wy=>zkh hy wy);obtain⟨co,cc,l5,e5,s5,b5⟩:=zcd (zlU W) Tryz.underlying25 zlP (by decide) h5 w5 (fun m cs' y hm _ hy wy=>zjv hy wy);have g3:=zc8 Tryz.underlying23 h3 w3 e3;have g4:=zc8 Tryz.underlying24 h4 w4 e4;have g5:=zc8 Tryz.underlying25 h5 w5 e5;rw [zl5]at g3;rw [zmr]at g4;rw [zmg]at g5;obtain rfl:=zG e0;obtain rfl:=zG e1;obtain rfl:=zG e2;obtain rfl:=zG e3;obtain rfl:=zG e4;obtain rfl:=zG e5;refine⟨⟨s0,n1,l2,l3,l4,l5⟩,lo,fo,go,co,lc,fc,gc,cc,rfl,⟨s2,s3,s4,s5.imp fun _ _ h=>h.1,i0,i1,b2,b3,b4,b5⟩,⟨g3,g4,g5,fun x hx=>?_⟩,fun x hx=>?_⟩
 ·obtain⟨j,hj,rfl⟩:=List.getElem_of_mem hx
  obtain⟨_,_,_,_,hr⟩:=s5.row hj;obtain⟨_,_,_,hr2⟩:=hr j hj;exact hr2.2.2
 ·obtain⟨j,hj,rfl⟩:=List.getElem_of_mem hx
  obtain⟨_,_,_,_,hr⟩:=s5.row hj;obtain⟨_,_,_,hr2⟩:=hr j hj;exact hr2.2.1
end Go.Proofs.YtepjanajflkakaaGreatDoor
