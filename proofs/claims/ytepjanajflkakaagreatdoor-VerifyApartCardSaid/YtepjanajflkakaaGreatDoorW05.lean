import Derived.Test.YtepjanajflkakaaGreatDoorW01
namespace Go.Proofs.YtepjanajflkakaaGreatDoor
open Go.RowKit
set_option linter.unusedVariables false
set_option linter.unusedSimpArgs false
set_option maxRecDepth 100000
set_option maxHeartbeats 0
section
variable {P:Program} {ops:Array Oper} {Q:Exit->Act->World->Prop} {md:Region.Mode} {S1 S2:World->Prop} {p:Nat}
def zW (P:Program) (md:Region.Mode) (ops:Array Oper) (Q:Exit->Act->World->Prop) (p:Nat) (S1 S2:World->Prop):Nat->Array Bool->Act->World->Prop
 |0,listed,a,w=>Region.ready md ops listed= []/\Q .normal a w
 |fuel+1,listed,a,w=>(Region.ready md ops listed= []->Q .normal a w) /\
  ∀i∈Region.ready md ops listed,wpOp P ops Q i (fun a' w'=>(S1 w'/\((listed.setIfInBounds i true).getD p false=false->S2 w'))/\zW P md ops Q p S1 S2 fuel (listed.setIfInBounds i true) a' w') a w
theorem ze5: ∀(fuel:Nat) (listed:Array Bool) (a:Act) (w:World),zW P md ops Q p S1 S2 fuel listed a w->wpAny P md ops Q fuel listed a w
 |0,_,_,_,h=>h
 |fuel+1,_,_,_,h=>⟨h.1,fun i hi=>wpOp_mono (fun a' w' h'=>ze5 fuel _ a' w' h'.2) (h.2 i hi)⟩
def ClosedL (md:Region.Mode) (ops:Array Oper) (listed:Array Bool):Prop:= ∀j o,listed.getD j false=true->ops[j]?=some o-> ∀e∈o.after,Region.binds md e=true->listed.getD e.on false=true
def zdx (md:Region.Mode) (ops:Array Oper) (listed:Array Bool):Bool:=(List.range ops.size).all fun j=>!listed.getD j false||(match ops[j]? with
 |some o=>o.after.all fun e=>!Region.binds md e||listed.getD e.on false
 |none=>true)
theorem zed {listed:Array Bool} (h:zdx md ops listed=true):ClosedL md ops listed:=fun j o hj ho e he hb=>by
 have h1:=zzp.1 h j (List.mem_range.2 (Array.getElem?_eq_some_iff.1 ho).1);rw [hj,ho]at h1;have h2:=Array.all_eq_true_iff_forall_mem.1 (show o.after.all (fun e=>!Region.binds md e||listed.getD e.on false)=true from by simpa using h1) e he;rw [hb]at h2
 simpa using h2
theorem ClosedL.set {listed:Array Bool} {j:Nat} (h:ClosedL md ops listed) (hj:j∈Region.ready md ops listed):ClosedL md ops (listed.setIfInBounds j true):=fun k o hk ho e he hb=>by
 by_cases c:j=k
 ·subst c
  obtain⟨-,o',ho',hall⟩:=mem_ready.1 hj;rw [ho]at ho';injection ho' with ho';subst ho';exact getD_set_true (hall e he hb)
 ·rw [getD_set_ne false c]at hk
  exact getD_set_true (h k o hk ho e he hb)
def ze8 (md:Region.Mode) (ops:Array Oper) (j i:Nat):Bool:=match ops[j]? with
 |some o=>o.after.any fun e=>Region.binds md e&&e.on==i
 |none=>false
def zdA (md:Region.Mode) (ops:Array Oper):List Nat->Nat->Nat->Bool
 |[],j,i=>ze8 md ops j i
 |k::r,j,i=>ze8 md ops j k&&zdA md ops r k i
theorem zee {listed:Array Bool} {i j:Nat} (h:ze8 md ops j i=true) (hall: ∀o,ops[j]?=some o-> ∀e∈o.after,Region.binds md e=true->listed.getD e.on false=true):listed.getD i false=true:=by
 unfold ze8 at h
 cases ho:ops[j]? with
 |none=>rw [ho]at h;cases h
 |some o=>
  rw [ho]at h;obtain⟨e,he,hb⟩:=Array.any_eq_true'.1 (show o.after.any (fun e=>Region.binds md e&&e.on==i)=true from h);rw [zzq6,beq_iff_eq]at hb;rw [<-hb.2];exact hall o ho e he hb.1
theorem zd9 {listed:Array Bool} (hc:ClosedL md ops listed) {i:Nat}: ∀(r:List Nat) (j:Nat),zdA md ops r j i=true->(∀o,ops[j]?=some o-> ∀e∈o.after,Region.binds md e=true->listed.getD e.on false=true)->listed.getD i false=true
 |[],j,h,hall=>zee h hall
 |k::r,j,h,hall=>by
  unfold zdA at h;rw [zzq6]at h;have hk:=zee h.1 hall;exact zd9 hc r k h.2 fun o ho e he hb=>hc k o hk ho e he hb
theorem zd0 {i:Nat} {oi:Oper} {v:Value} {SA:World->Prop} (hi:ops[i]?=some oi) (hsel: ∀(j:Nat) (o:Oper) cs b,ops[j]?=some o->o.op≠ .select cs b)
  (hQ: ∀c a w,Q (.panic c) (a.put oi.dst v) w->Q (.panic c) a w) (hip:i≠p) (h0: ∀w,S1 w->S2 w->SA w)
  (h1:(∀w,S1 w->SA w)\/ ∃f,zdA md ops f p i=true):
  ∀(fuel:Nat) (listed:Array Bool) (a:Act) (w:World),ClosedL md ops listed ->
   (∀j oj,ops[j]?=some oj->j≠i->listed.getD j true=false->(∀e∈oj.after,Region.binds md e=true->e.on≠i)->oi.apart ops oj=true) ->
   i∈Region.ready md ops listed->(listed.getD p false=true-> ∀w,S1 w->SA w)->YieldsIf P ops SA oi v a->S1 w->(listed.getD p false=false->S2 w) ->
   zW P md ops Q p S1 S2 fuel (listed.setIfInBounds i true) (a.put oi.dst v) w->zW P md ops Q p S1 S2 (fuel+1) listed a w:=by
 intro fuel
 have key: ∀(listed:Array Bool) (w:World),(listed.getD p false=true-> ∀w,S1 w->SA w)->S1 w->(listed.getD p false=false->S2 w)->SA w:=fun listed w hp hs1 hs2=>by
  cases hb:listed.getD p false with
  |true=>exact hp hb w hs1
  |false=>exact h0 w hs1 (hs2 hb)
 have hbit: ∀listed:Array Bool,(listed.setIfInBounds i true).getD p false=listed.getD p false:=fun listed=>getD_set_ne false hip
 induction fuel with
 |zero=>
  intro listed a w _ _ hr hp hy hs1 hs2 H;refine⟨fun h=>(by rw [h]at hr;cases hr),fun j hj=>?_⟩;by_cases hji:j=i
  ·subst hji;exact hy.wpOp hi (key listed w hp hs1 hs2) ⟨⟨hs1,by rw [hbit];exact hs2⟩,H⟩
  ·have:=ready_mono hj hji
   rw [H.1]at this
   cases this
 |succ fuel ih=>
  intro listed a w hcl hfree hr hp hy hs1 hs2 H;refine⟨fun h=>(by rw [h]at hr;cases hr),fun j hj=>?_⟩;by_cases hji:j=i
  ·subst hji;exact hy.wpOp hi (key listed w hp hs1 hs2) ⟨⟨hs1,by rw [hbit];exact hs2⟩,H⟩
  ·have h2:=H.2 j (ready_mono hj hji)
   obtain⟨hjun,oj,hoj,hall⟩:=mem_ready.1 hj
   have hnot: ∀e∈oj.after,Region.binds md e=true->e.on≠i:=fun e he hb heq=>by
    have h3:=hall e he hb;have h4:=(mem_ready.1 hr).1;rw [heq]at h3;exact zz12
   have h3:=wpOp_putIf hoj (hfree j oj hoj hji hjun hnot) (fun cs b=>hsel i oi cs b hi) (fun cs b=>hsel j oj cs b hoj) hQ hy h2
   have hfree': ∀k ok,ops[k]?=some ok->k≠i->(listed.setIfInBounds j true).getD k true=false->(∀e∈ok.after,Region.binds md e=true->e.on≠i)->oi.apart ops ok=true:=fun k ok hk hki hun hno=>by
    refine hfree k ok hk hki ?_ hno;by_cases hjk:j=k
    ·subst hjk;exact hjun
    ·rw [getD_set_ne true hjk]at hun;exact hun
   have hp':(listed.setIfInBounds j true).getD p false=true-> ∀w,S1 w->SA w:=fun hb=>by
    by_cases hjp:j=p
    ·rcases h1 with h1|⟨f,hf⟩
     ·exact h1
     ·subst hjp
      have h3:=zd9 hcl f j hf fun o ho e he hb=>by
       rw [hoj]at ho;injection ho with ho;subst ho;exact hall e he hb
      have h4:=(mem_ready.1 hr).1;exact zz12
    ·rw [getD_set_ne false hjp]at hb;exact hp hb
   have hsw:((listed.setIfInBounds i true).setIfInBounds j true).getD p false=(listed.setIfInBounds j true).getD p false:=by
    rw [Array.setIfInBounds_comm _ _ (Ne.symm hji)];exact hbit _
   refine wpOp_mono (fun a' w' h4=>?_) h3;obtain⟨hy',⟨hs1',hs2'⟩,hrest⟩:=h4;rw [hsw]at hs2';refine⟨⟨hs1',hs2'⟩,ih (listed.setIfInBounds j true) a' w' (hcl.set hj) hfree' (ready_mono hr (Ne.symm hji)) hp' hy' hs1' hs2' ?_⟩;rw [Array.setIfInBounds_comm _ _ hji];exact hrest
theorem zgn (r:List Nat) {i:Nat} {oi:Oper} {v:Value} {fuel:Nat} {listed:Array Bool} {a:Act} {w:World} (hi:ops[i]?=some oi)
  (hs : Region.noSelect ops = true) (hf : Region.free md ops listed i = true) (hr : (Region.ready md ops listed).contains i = true) (hp : (i != p && (!listed.getD p false && (zdx md ops listed && zdA md ops r p i))) = true)
  (hQ: ∀c a w,Q (.panic c) (a.put oi.dst v) w->Q (.panic c) a w) (hy:YieldsIf P ops (fun w=>S1 w/\S2 w) oi v a) (hS:S1 w/\S2 w)
  (h:zW P md ops Q p S1 S2 fuel (listed.setIfInBounds i true) (a.put oi.dst v) w):zW P md ops Q p S1 S2 (fuel+1) listed a w:=by
 rw [zzq6,zzq6,zzq6]at hp;obtain⟨h1,h2,h3,h4⟩:=hp;have hl:listed.getD p false=false:=by simpa using h2
 exact zd0 (SA:=fun w=>S1 w/\S2 w) hi (Region.noSelect_spec hs) hQ (by simpa using h1) (fun w a b=>⟨a,b⟩) (.inr ⟨_,h4⟩) fuel listed a w (zed h3) (Region.free_spec hi hf) (by simpa using hr) (fun h=>by rw [hl]at h;cases h) hy hS.1 (fun _=>hS.2) h
theorem zhj {i:Nat} {oi:Oper} {v:Value} {fuel:Nat} {listed:Array Bool} {a:Act} {w:World} (hi:ops[i]?=some oi)
  (hs : Region.noSelect ops = true) (hf : Region.free md ops listed i = true) (hr : (Region.ready md ops listed).contains i = true) (hp : (i != p && (!listed.getD p false && zdx md ops listed)) = true)
  (hQ: ∀c a w,Q (.panic c) (a.put oi.dst v) w->Q (.panic c) a w) (hy:YieldsIf P ops S1 oi v a) (hS:S1 w/\S2 w)
  (h:zW P md ops Q p S1 S2 fuel (listed.setIfInBounds i true) (a.put oi.dst v) w):zW P md ops Q p S1 S2 (fuel+1) listed a w:=by
 rw [zzq6,zzq6]at hp;have hl:listed.getD p false=false:=by simpa using hp.2.1
 exact zd0 (SA:=S1) hi (Region.noSelect_spec hs) hQ (by simpa using hp.1) (fun w a _=>a) (.inl fun _ h=>h) fuel listed a w (zed hp.2.2) (Region.free_spec hi hf) (by simpa using hr) (fun h=>by rw [hl]at h;cases h) hy hS.1 (fun _=>hS.2) h
theorem zil {i:Nat} {o:Oper} {fuel:Nat} {listed:Array Bool} {a:Act} {w:World} (hr:Region.ready md ops listed= [i]) (ho:ops[i]?=some o)
  (h: ∀K:Act->World->Prop,Hid (∀a' w',(S1 w'/\S2 w')->zW P md ops Q p S1 S2 fuel (listed.setIfInBounds i true) a' w'->K a' w')->(if Region.wanted o (yielded ops a.tmps)=true then Oper.wp P o a w K Q else K (a.put o.dst undef) w)):
  zW P md ops Q p S1 S2 (fuel+1) listed a w:=by
 refine⟨fun h0=>(by rw [hr]at h0;cases h0),fun j hj=>?_⟩;rw [hr,List.mem_singleton]at hj;subst hj;have h1:=h (fun a' w'=>(S1 w'/\((listed.setIfInBounds j true).getD p false=false->S2 w'))/\zW P md ops Q p S1 S2 fuel (listed.setIfInBounds j true) a' w') (zzH fun a' w' h1 h2=>⟨⟨h1.1,fun _=>h1.2⟩,h2⟩);unfold wpOp;rw [ho];show if Region.wanted o (yielded ops a.tmps)=true then _ else _
 split
 ·rename_i hw;rw [if_pos hw]at h1;exact .inl h1
 ·rename_i hw;rw [if_neg hw]at h1;exact h1
theorem zif {i:Nat} {o:Oper} {fuel:Nat} {listed:Array Bool} {a:Act} {w:World} (hr:Region.ready md ops listed= [i]) (ho:ops[i]?=some o) (hp:(listed.setIfInBounds i true).getD p false=true)
  (h: ∀K:Act->World->Prop,Hid (∀a' w',S1 w'->zW P md ops Q p S1 S2 fuel (listed.setIfInBounds i true) a' w'->K a' w')->(if Region.wanted o (yielded ops a.tmps)=true then Oper.wp P o a w K Q else K (a.put o.dst undef) w)):
  zW P md ops Q p S1 S2 (fuel+1) listed a w:=by
 refine⟨fun h0=>(by rw [hr]at h0;cases h0),fun j hj=>?_⟩;rw [hr,List.mem_singleton]at hj;subst hj;have h1:=h (fun a' w'=>(S1 w'/\((listed.setIfInBounds j true).getD p false=false->S2 w'))/\zW P md ops Q p S1 S2 fuel (listed.setIfInBounds j true) a' w') (zzH fun a' w' h1 h2=>⟨⟨h1,fun h3=>(by rw [hp]at h3;cases h3)⟩,h2⟩);unfold wpOp;rw [ho];show if Region.wanted o (yielded ops a.tmps)=true then _ else _
 split
 ·rename_i hw;rw [if_pos hw]at h1;exact .inl h1
 ·rename_i hw;rw [if_neg hw]at h1;exact h1
theorem zU (r:List Nat) (i:Nat) {oi:Oper} {v:Value} {fuel:Nat} {listed:Array Bool} {a:Act} {w:World} (hS:S1 w/\S2 w)
  (h:zW P md ops Q p S1 S2 fuel (listed.setIfInBounds i true) (a.put oi.dst v) w) (hi:ops[i]?=some oi:=by exact rfl)
  (hs : Region.noSelect ops = true := by kernel_rfl) (hf : Region.free md ops listed i = true := by kernel_rfl) (hr : (Region.ready md ops listed).contains i = true := by kernel_rfl) (hp : (i != p && (!listed.getD p false && (zdx md ops listed && zdA md ops r p i))) = true := by kernel_rfl)
  (hQ: ∀c a w,Q (.panic c) (a.put oi.dst v) w->Q (.panic c) a w:=by exact fun _ _ _ h=>h)
  (hy:YieldsIf P ops (fun w=>S1 w/\S2 w) oi v a:=by(refine Or.inl ⟨by rfl,?_⟩;intro w hSw;(try dsimp only [zzrUt]at hSw);go_simp;try with_reducible rfl)):zW P md ops Q p S1 S2 (fuel+1) listed a w:=
 zgn r hi hs hf hr hp hQ hy hS h
theorem ze (i:Nat) {oi:Oper} {v:Value} {fuel:Nat} {listed:Array Bool} {a:Act} {w:World} (hS:S1 w/\S2 w)
  (h:zW P md ops Q p S1 S2 fuel (listed.setIfInBounds i true) (a.put oi.dst v) w) (hi:ops[i]?=some oi:=by exact rfl)
  (hs : Region.noSelect ops = true := by kernel_rfl) (hf : Region.free md ops listed i = true := by kernel_rfl) (hr : (Region.ready md ops listed).contains i = true := by kernel_rfl) (hp : (i != p && (!listed.getD p false && zdx md ops listed)) = true := by kernel_rfl)
  (hQ: ∀c a w,Q (.panic c) (a.put oi.dst v) w->Q (.panic c) a w:=by exact fun _ _ _ h=>h)
  (hy:YieldsIf P ops S1 oi v a:=by(refine Or.inl ⟨by rfl,?_⟩;intro w hSw;(try dsimp only [zzrUt]at hSw);go_simp;try with_reducible rfl)):zW P md ops Q p S1 S2 (fuel+1) listed a w:=
 zhj hi hs hf hr hp hQ hy hS h
theorem zbb (i:Nat) {o:Oper} {fuel:Nat} {listed:Array Bool} {a:Act} {w:World}
  (h: ∀K:Act->World->Prop,Hid (∀a' w',(S1 w'/\S2 w')->zW P md ops Q p S1 S2 fuel (listed.setIfInBounds i true) a' w'->K a' w')->(if Region.wanted o (yielded ops a.tmps)=true then Oper.wp P o a w K Q else K (a.put o.dst undef) w))
  (hr:Region.ready md ops listed= [i]:=by kernel_rfl) (ho:ops[i]?=some o:=by exact rfl):
  zW P md ops Q p S1 S2 (fuel+1) listed a w:=zil hr ho h
theorem zba (i:Nat) {o:Oper} {fuel:Nat} {listed:Array Bool} {a:Act} {w:World}
  (h: ∀K:Act->World->Prop,Hid (∀a' w',S1 w'->zW P md ops Q p S1 S2 fuel (listed.setIfInBounds i true) a' w'->K a' w')->(if Region.wanted o (yielded ops a.tmps)=true then Oper.wp P o a w K Q else K (a.put o.dst undef) w))
  (hr:Region.ready md ops listed= [i]:=by kernel_rfl) (ho:ops[i]?=some o:=by exact rfl) (hp:(listed.setIfInBounds i true).getD p false=true:=by kernel_rfl):
  zW P md ops Q p S1 S2 (fuel+1) listed a w:=zif hr ho hp h
theorem zbV {listed:Array Bool} {a:Act} {w:World} (hr:Region.ready md ops listed= []) (h:Q .normal a w): ∀fuel,zW P md ops Q p S1 S2 fuel listed a w
 |0=>⟨hr,h⟩
 |_+1=>⟨fun _=>h,by rw [hr];simp⟩
theorem zb5 {id:Nat} {a:Act} {w:World} (p:Nat) (S1 S2:World->Prop) (hm:P.follows .mixedOrders=true) (hS:S1 w.drew/\S2 w.drew)
  (h:S1 w.drew/\S2 w.drew->zW P .any ops Q p S1 S2 ops.size (Array.replicate ops.size false) a w.drew):(Code.region id ops true).wp P Q a w:=
 wp_region_any hm (ze5 _ _ _ _ (h hS))
end
structure IBox (w:World) (b o:Nat) (x:RIns) (so co go:Option Addr) (sc cc gc:Nat):Prop where
 lt:b<w.heap.size
 c0:w.cell? ⟨b,o,none⟩=some (.int .i64 x.op)
 c1:w.cell? ⟨b,o+1,none⟩=some (.int .i64 x.dst.kind)
 c2:w.cell? ⟨b,o+2,none⟩=some (.int .i64 x.dst.n)
 c3:w.cell? ⟨b,o+3,none⟩=some (.slice so x.src.length sc)
 c4:w.cell? ⟨b,o+4,none⟩=some (.int .i64 x.to)
 c5:w.cell? ⟨b,o+5,none⟩=some (.int .i64 x.n)
 c6:w.cell? ⟨b,o+6,none⟩=some (.int .i64 x.live)
 c7:w.cell? ⟨b,o+7,none⟩=some (.string x.name)
 c8:w.cell? ⟨b,o+8,none⟩=some (.slice co x.cases.length cc)
 c9:w.cell? ⟨b,o+9,none⟩=some (.slice go x.segs.length gc)
 src:SlAt w 2 zcB so x.src
 cases:SlAt w 2 zbP co x.cases
 segs:SlAt w 6 zcD go x.segs
 rop:I64 x.op
 rdk:I64 x.dst.kind
 rdn:I64 x.dst.n
 rsrc:x.src.length<=9223372036854775807
 rto:I64 x.to
 rn:I64 x.n
 rlive:I64 x.live
 rname:x.name.size<=9223372036854775807
 rcases:x.cases.length<=9223372036854775807
 rsegs:x.segs.length<=9223372036854775807
theorem IBox.below {w w':World} {b o:Nat} {x:RIns} {so co go:zzA} {sc cc gc:Nat} (h:IBox w b o x so co go sc cc gc) (hb:Below w.heap.size w w'):IBox w' b o x so co go sc cc gc:=
 ⟨zzW h.lt hb.size,(hb.cell (p:=⟨b,o,none⟩) h.lt).trans h.c0,(hb.cell (p:=⟨b,o+1,none⟩) h.lt).trans h.c1,(hb.cell (p:=⟨b,o+2,none⟩) h.lt).trans h.c2,(hb.cell (p:=⟨b,o+3,none⟩) h.lt).trans h.c3,(hb.cell (p:=⟨b,o+4,none⟩) h.lt).trans h.c4,
  (hb.cell (p:=⟨b,o+5,none⟩) h.lt).trans h.c5,(hb.cell (p:=⟨b,o+6,none⟩) h.lt).trans h.c6,(hb.cell (p:=⟨b,o+7,none⟩) h.lt).trans h.c7,(hb.cell (p:=⟨b,o+8,none⟩) h.lt).trans h.c8,(hb.cell (p:=⟨b,o+9,none⟩) h.lt).trans h.c9,
  h.src.mono hb fun _ _ h=>h,h.cases.mono hb fun _ _ h=>h,h.segs.mono hb fun _ _ h=>h,h.rop,h.rdk,h.rdn,h.rsrc,h.rto,h.rn,h.rlive,h.rname,h.rcases,h.rsegs⟩
theorem zdz {w:World} {ao:zzA} {l:List RIns} (h:SlAt w 10 (InsR w) ao l) {k:Nat} (hk:k<l.length): ∃b off so co go sc cc gc,ao=some ⟨b,off,none⟩/\IBox w b (off+k*10) l[k] so co go sc cc gc:=by
 obtain⟨b,off,so,sc,co,cc,go,gc,e,hb,c0,c1,c2,c3,c4,c5,c6,c7,c8,c9,s1,s2,s3,r1,r2,r3,r4,r5,r6,r7,r8,r9,r10⟩:=h.ins hk;exact⟨b,off,so,co,go,sc,cc,gc,e,hb,c0,c1,c2,c3,c4,c5,c6,c7,c8,c9,s1,s2,s3,r1,r2,r3,r4,r5,r6,r7,r8,r9,r10⟩
def zdg (nl:Nat) (x:RIns) (h:Nat):Bool:=if zj h 1=true then !decide (x.dst.kind=3)&&zbH nl x.dst else decide (x.dst.kind=0)&&decide (x.dst.n=0)
def zB (nl:Nat) (x:RIns) (h lo hi:Nat):Bool:=
 zdg nl x h&&(x.src.all (zbH nl)&&(wi x.src.length lo hi&&(wi x.live 0 256&&((zj h 4||x.n==0)&&((zj h 8||x.name.toList.isEmpty)&&((zj h 64||x.to==0)&&((zj h 128||x.live==0)&&((zj h 16||x.cases.length==0)&&(zj h 32||x.segs.length==0)))))))))
theorem zhZ (B:Nat) (u:RUnit) (lo' fo go' co':zzA) (lc fc gc' cc':Nat) (b o:Nat) (x:RIns) (so co go:zzA) (sc cc gc:Nat) (h lo hi:Nat) (w:World) (hu:UBox w B u lo' fo go' co' lc fc gc' cc') (hl:u.lits.length<=9223372036854775807) (hx:IBox w b o x so co go sc cc gc) (h1:h<1000) (h2:lo<1000) (h3:hi<1000):
  Calls Tryz.prog 40 #[.pointer (some ⟨B,0,none⟩),.pointer (some ⟨b,o,none⟩),.agg #[.int .i64 h,.int .i64 lo,.int .i64 hi]] w fun e w'=>e= .returned (.bool (zB u.lits.length x h lo hi))/\Below w.heap.size w w':=by
 have hbe:Below w.heap.size w (w.alloc (.cells #[.int .i64 h,.int .i64 lo,.int .i64 hi] 97)):=zzE _ _;have HU:=zzH (hu.below hbe);have HX:=zzH (hx.below hbe);have hlt:=hx.lt;have hC:(w.alloc (.cells #[.int .i64 h,.int .i64 lo,.int .i64 hi] 97)).heap[w.heap.size]?=some (.cells #[.int .i64 h,.int .i64 lo,.int .i64 hi] 97 (0,0)):=zzF _ _
 clear hu hx;go_in;go_wp2_with fail;generalize w.alloc (.cells #[.int .i64 h,.int .i64 lo,.int .i64 hi] 97)=Wa at *;have HBA:=zzH hbe;generalize hCC:w.heap.size=C at hC ⊢;have hc0:Wa.cell? ⟨C,0,none⟩=some (.int .i64 h):=by rw [zzq0 _ _ _ _ _ _ hC];rfl
 have i1:=HX.out.c1;have i2:=HX.out.c2;have i3:=HX.out.c3;have hs3:=HX.out.rsrc;refine(zcI h 1 _ rfl C _ hc0 (by omega) (by omega)).mono ?_;rintro e w' ⟨rfl,rfl⟩;have HD1:Hid (zj h 1=zj h 1):=zzH rfl;generalize hq1:zj h 1=q1 at *;have HQ1:=zzH hq1;clear hq1;go_upto_if 12 with(fail);go_cut [] (fun wx=>Hid (zdg u.lits.length x h=true)/\Below Wa.heap.size Wa wx)
 case first=>
  cases q1 with
  |true=>
   cases hd2:decide (x.dst.kind=3)with
   |true=>
    have E:Hid (zB u.lits.length x h lo hi=false):=zzH (by unfold zB zdg;rw [HQ1.out,hd2];rfl);have hk:(x.dst.kind==3)=true:=by rw [of_decide_eq_true hd2];rfl
    clear hd2;exact zz16
   |false=>
    have hk:(x.dst.kind==3)=false:=by rw [zzq1];exact of_decide_eq_false hd2
    have hop:=zcM B u lo' fo go' co' lc fc gc' cc' x.dst _ HU.out hl ⟨HX.out.rdk,HX.out.rdn⟩
    cases hq:zbH u.lits.length x.dst with
    |false=>
     have E:Hid (zB u.lits.length x h lo hi=false):=zzH (by unfold zB zdg;rw [HQ1.out,hd2,hq];rfl);rw [hq]at hop;clear hd2 hq;go_wp2_with fail;refine hop.mono ?_;rintro e w5 ⟨rfl,hb5⟩;go_wp2;go_ret;exact⟨zi E.out.symm,hbe.trans (hb5.mono hbe.size)⟩
    |true=>
     have HDST:Hid (zdg u.lits.length x h=true):=zzH (by unfold zdg;rw [HQ1.out,hd2,hq];rfl);rw [hq]at hop;clear hd2 hq;go_wp2_with fail;refine hop.mono ?_;rintro e w5 ⟨rfl,hB0⟩;go_wp2_with fail;go_meet
     case rel=>exact⟨HDST,hB0⟩
  |false=>
   by_cases z1:x.dst.kind=0
   ·have y1:(x.dst.kind==0)=true:=by rw [z1];rfl
    by_cases z2:x.dst.n=0
    ·have y2:(x.dst.n==0)=true:=by rw [z2];rfl
     have HDST:Hid (zdg u.lits.length x h=true):=zzH (by unfold zdg;rw [HQ1.out,decide_eq_true z1,decide_eq_true z2];rfl);clear z1 z2;go_wp2_with fail;go_meet
     case rel=>exact⟨HDST,zzR _ _⟩
    ·have y2:(x.dst.n==0)=false:=zzB.2 z2
     have E:Hid (zB u.lits.length x h lo hi=false):=zzH (by unfold zB zdg;rw [HQ1.out,decide_eq_true z1,decide_eq_false z2];rfl);clear z1 z2;exact zz16
   ·have y1:(x.dst.kind==0)=false:=zzB.2 z1
    have E:Hid (zB u.lits.length x h lo hi=false):=zzH (by unfold zB zdg;rw [HQ1.out,decide_eq_false z1];rfl);clear z1;exact zz16
 case rest=>
  obtain⟨HDST,hB0⟩:=hcut;rename_i w5;have i3:=(HX.out.below hB0).c3;go_wp2_with fail;go_loopw [39] (fun iv wr=> ∃k:Nat,k<=x.src.length/\iv= .int .i64 k/\Hid (∀j (h:j<x.src.length),j<k->zbH u.lits.length x.src[j]=true)/\Below Wa.heap.size Wa wr) (fun iv _=>x.src.length-(intOf iv).toNat)
  case atStart=>exact⟨0,zzZ _,rfl,zzH (fun j _ h=>absurd h (zzC _)),hB0⟩
  case round=>
   obtain⟨k,hk,rfl,HK,hB⟩:=hrel;rename World=>wr
   have ib:=HX.out.below hB;have ub:=HU.out.below hB;by_cases hlt:k<x.src.length
   ·obtain⟨b2,off,hao,hb2,q0,q1,r0,r1⟩:=ib.src.arg hlt
    subst hao
    have HE:Hid (zbH u.lits.length x.src[k]=false->zB u.lits.length x h lo hi=false):=zzH (fun hf=>by
     unfold zB
     have:x.src.all (zbH u.lits.length)=false:=by
      rw [List.all_eq_false];exact⟨x.src[k],zzM hlt,by rw [hf];decide⟩
     rw [this];simp)
    have HN:Hid (zbH u.lits.length x.src[k]=true-> ∀j (h:j<x.src.length),j<k+1->zbH u.lits.length x.src[j]=true):=zzH (fun hne j h hj=>by
     rcases Nat.eq_or_lt_of_le (Nat.le_of_lt_succ hj)with e|e
     ·subst e;exact hne
     ·exact HK.out j h e)
    generalize x.src[k]=a at *;have hba:=(zzR wr.heap.size wr).alloc (zzL _) (.cells #[.int .i64 a.kind,.int .i64 a.n] 42);have hop:=zcM B u lo' fo go' co' lc fc gc' cc' a _ (ub.below hba) hl ⟨r0,r1⟩;clear ib ub
    cases hq:zbH u.lits.length a with
    |false=>
     have E:=zzH (HE.out hq);rw [hq]at hop;clear hq;go_wp2_with fail;refine hop.mono ?_;rintro e w5 ⟨rfl,hb5⟩;go_wp2;go_ret;exact⟨zi E.out.symm,HBA.out.trans ((hB.trans ((hba.trans (hb5.mono (by simp))).mono hB.size)).mono HBA.out.size)⟩
    |true=>
     have HN2:=zzH (HN.out hq);rw [hq]at hop;clear hq;go_wp2_with fail;refine hop.mono ?_;rintro e w5 ⟨rfl,hb5⟩;go_wp2_with fail;go_roundw
     case rel=>exact⟨k+1,by omega,by go_num,HN2,hB.trans ((hba.trans (hb5.mono (by simp))).mono hB.size)⟩
     case measure=>simp [intOf];omega
   ·have HALL:Hid (x.src.all (zbH u.lits.length)=true):=zzH (by
     rw [List.all_eq_true];intro a ha;obtain⟨j,hj,rfl⟩:=List.getElem_of_mem ha;exact HK.out j hj (by omega))
    have hC2:=(hB.block C (zb hC)).trans hC;obtain ⟨hcW,hcL,hcH⟩:=zzc3 hC2;have d3:=ib.c3;have d4:=ib.c4;have d5:=ib.c5;have d6:=ib.c6;have d7:=ib.c7;have d8:=ib.c8;have d9:=ib.c9;have hsrc:=ib.rsrc;clear ib ub hC2
    have HF:Hid (zB u.lits.length x h lo hi=(wi x.src.length lo hi&&(wi x.live 0 256&&((zj h 4||x.n==0)&&((zj h 8||x.name.toList.isEmpty)&&((zj h 64||x.to==0)&&((zj h 128||x.live==0)&&((zj h 16||x.cases.length==0)&&(zj h 32||x.segs.length==0))))))))):=zzH (by
     unfold zB;rw [HDST.out,HALL.out];rfl)
    have hBZ:=HBA.out.trans (hB.mono HBA.out.size)
    cases hw1:wi x.src.length lo hi with
    |false=>
     have E:Hid (zB u.lits.length x h lo hi=false):=zzH (by rw [HF.out,hw1];rfl);go_wp2_with fail;go_quiet ((go_at_call 71;exact zze ((zl _ _ _ _).mono fun _ _ ⟨a,b⟩=>⟨a,b.symm⟩)));go_wp2;go_ret;exact⟨zi E.out.symm,zg hBZ _⟩
    |true=>
     go_wp2_with fail;go_quiet ((go_at_call 71;exact zze ((zl _ _ _ _).mono fun _ _ ⟨a,b⟩=>⟨a,b.symm⟩)));have HBQ:=zzH hBZ
     cases hw2:wi x.live 0 256 with
     |false=>
      have E:Hid (zB u.lits.length x h lo hi=false):=zzH (by rw [HF.out,hw1,hw2];rfl);go_wp2_with (go_at_call 71;refine(zl _ _ _ _).mono ?_;rintro e w1 ⟨rfl,rfl⟩);go_ret;exact⟨zi E.out.symm,zg hBZ _⟩
     |true=>
      have HF2:Hid (zB u.lits.length x h lo hi=((zj h 4||x.n==0)&&((zj h 8||x.name.toList.isEmpty)&&((zj h 64||x.to==0)&&((zj h 128||x.live==0)&&((zj h 16||x.cases.length==0)&&(zj h 32||x.segs.length==0))))))):=zzH (by rw [HF.out,hw1,hw2];rfl);clear HF;have HQ0:=zzH hcW;go_upto_region 16 with(go_at_call 71;refine(zl _ _ _ _).mono ?_;rintro e w1 ⟨rfl,rfl⟩);have hBW:=zg hBZ nq;refine zzK7 d3 d4 d5 d6 d7 d8 d9 fun d3' d4' d5' d6' d7' d8' d9'=>?_;clear d3 d4 d5 d6 d7 d8 d9 hcW hcL hcH;generalize hWQ:wr.drewN nq=Wq at *;have hcW:Wq.cell? ⟨C,0,none⟩=some (.int .i64 h):=by rw [<-hWQ];exact HQ0.out
      have d4:=d4'.out;rw [show wr.cell?=Wq.cell? from by rw [<-hWQ];rfl]at d4;have d5:=d5'.out;rw [show wr.cell?=Wq.cell? from by rw [<-hWQ];rfl]at d5;have d6:=d6'.out;rw [show wr.cell?=Wq.cell? from by rw [<-hWQ];rfl]at d6;have d7:=d7'.out;rw [show wr.cell?=Wq.cell? from by rw [<-hWQ];rfl]at d7;have d8:=d8'.out;rw [show wr.cell?=Wq.cell? from by rw [<-hWQ];rfl]at d8;have d9:=d9'.out;rw [show wr.cell?=Wq.cell? from by rw [<-hWQ];rfl]at d9;clear hWQ;have HG0:Hid (zB u.lits.length x h lo hi=((zj h 4||x.n==0)&&((zj h 8||x.name.toList.isEmpty)&&((zj h 64||x.to==0)&&((zj h 128||x.live==0)&&((zj h 16||x.cases.length==0)&&(zj h 32||x.segs.length==0))))))):=zzH (by rw [HF2.out]);have hh:=fun wx (hc:wx.cell? ⟨C,0,none⟩=some (.int .i64 h))=>zcI h 4 4 rfl C wx hc (by omega) (by omega)
      go_cut [66] (fun sv wx=> ∃v:Bool,sv= .bool v/\Hid ((zj h 4||x.n==0)= !v)/\Wq=wx)
      case first=>
       go_wp2_with fail;refine(hh _ hcW).mono ?_;rintro e w1 ⟨rfl,rfl⟩
       cases hq4:zj h 4
       ·exact zz18
       ·exact zz18
      case rest=>
       obtain⟨v,rfl,HV00,rfl⟩:=hcut;clear hh
       cases v with
       |true=>
        have E:Hid (zB u.lits.length x h lo hi=false):=zzH (by rw [HG0.out,HV00.out];rfl);exact zz19
       |false=>
        have HV0:Hid ((zj h 4||x.n==0)=true):=zzH (by rw [HV00.out];rfl);go_upto_region 17 with fail;have HG1:Hid (zB u.lits.length x h lo hi=((zj h 8||x.name.toList.isEmpty)&&((zj h 64||x.to==0)&&((zj h 128||x.live==0)&&((zj h 16||x.cases.length==0)&&(zj h 32||x.segs.length==0)))))):=zzH (by rw [HG0.out,HV0.out,zzq11]);have hh:=fun wx (hc:wx.cell? ⟨C,0,none⟩=some (.int .i64 h))=>zcI h 8 8 rfl C wx hc (by omega) (by omega)
        go_cut [66] (fun sv wx=> ∃v:Bool,sv= .bool v/\Hid ((zj h 8||x.name.toList.isEmpty)= !v)/\Wq=wx)
        case first=>
         go_wp2_with fail;refine(hh _ hcW).mono ?_;rintro e w1 ⟨rfl,rfl⟩
         cases hq4:zj h 8
         ·exact zz18
         ·exact zz18
        case rest=>
         obtain⟨v,rfl,HV10,rfl⟩:=hcut;clear hh
         cases v with
         |true=>
          have E:Hid (zB u.lits.length x h lo hi=false):=zzH (by rw [HG1.out,HV10.out];rfl);exact zz19
         |false=>
          have HV1:Hid ((zj h 8||x.name.toList.isEmpty)=true):=zzH (by rw [HV10.out];rfl);go_upto_region 18 with fail;have HG2:Hid (zB u.lits.length x h lo hi=((zj h 64||x.to==0)&&((zj h 128||x.live==0)&&((zj h 16||x.cases.length==0)&&(zj h 32||x.segs.length==0))))):=zzH (by rw [HG1.out,HV1.out,zzq11]);have hh:=fun wx (hc:wx.cell? ⟨C,0,none⟩=some (.int .i64 h))=>zcI h 64 64 rfl C wx hc (by omega) (by omega)
          go_cut [66] (fun sv wx=> ∃v:Bool,sv= .bool v/\Hid ((zj h 64||x.to==0)= !v)/\Wq=wx)
          case first=>
           go_wp2_with fail;refine(hh _ hcW).mono ?_;rintro e w1 ⟨rfl,rfl⟩
           cases hq4:zj h 64
           ·exact zz18
           ·exact zz18
          case rest=>
           obtain⟨v,rfl,HV20,rfl⟩:=hcut;clear hh
           cases v with
           |true=>
            have E:Hid (zB u.lits.length x h lo hi=false):=zzH (by rw [HG2.out,HV20.out];rfl);exact zz19
           |false=>
            have HV2:Hid ((zj h 64||x.to==0)=true):=zzH (by rw [HV20.out];rfl);go_upto_region 19 with fail;have HG3:Hid (zB u.lits.length x h lo hi=((zj h 128||x.live==0)&&((zj h 16||x.cases.length==0)&&(zj h 32||x.segs.length==0)))):=zzH (by rw [HG2.out,HV2.out,zzq11]);have hh:=fun wx (hc:wx.cell? ⟨C,0,none⟩=some (.int .i64 h))=>zcI h 128 128 rfl C wx hc (by omega) (by omega)
            go_cut [66] (fun sv wx=> ∃v:Bool,sv= .bool v/\Hid ((zj h 128||x.live==0)= !v)/\Wq=wx)
            case first=>
             go_wp2_with fail;refine(hh _ hcW).mono ?_;rintro e w1 ⟨rfl,rfl⟩
             cases hq4:zj h 128
             ·exact zz18
             ·exact zz18
            case rest=>
             obtain⟨v,rfl,HV30,rfl⟩:=hcut;clear hh
             cases v with
             |true=>
              have E:Hid (zB u.lits.length x h lo hi=false):=zzH (by rw [HG3.out,HV30.out];rfl);exact zz19
             |false=>
              have HV3:Hid ((zj h 128||x.live==0)=true):=zzH (by rw [HV30.out];rfl);go_upto_region 21 with fail;have HG4:Hid (zB u.lits.length x h lo hi=((zj h 16||x.cases.length==0)&&(zj h 32||x.segs.length==0))):=zzH (by rw [HG3.out,HV3.out,zzq11]);have hh:=fun wx (hc:wx.cell? ⟨C,0,none⟩=some (.int .i64 h))=>zcI h 16 16 rfl C wx hc (by omega) (by omega)
              go_cut [107] (fun sv wx=> ∃v:Bool,sv= .bool v/\Hid ((zj h 16||x.cases.length==0)= !v)/\Wq=wx)
              case first=>
               go_wp2_with fail;refine(hh _ hcW).mono ?_;rintro e w1 ⟨rfl,rfl⟩
               cases hq4:zj h 16
               ·exact zz18
               ·exact zz18
              case rest=>
               obtain⟨v,rfl,HV40,rfl⟩:=hcut;clear hh
               cases v with
               |true=>
                have E:Hid (zB u.lits.length x h lo hi=false):=zzH (by rw [HG4.out,HV40.out];rfl);exact zz19
               |false=>
                have HV4:Hid ((zj h 16||x.cases.length==0)=true):=zzH (by rw [HV40.out];rfl);go_upto_region 22 with fail;have HG5:Hid (zB u.lits.length x h lo hi=(zj h 32||x.segs.length==0)):=zzH (by rw [HG4.out,HV4.out,zzq11]);have hh:=fun wx (hc:wx.cell? ⟨C,0,none⟩=some (.int .i64 h))=>zcI h 32 32 rfl C wx hc (by omega) (by omega)
                go_cut [107] (fun sv wx=> ∃v:Bool,sv= .bool v/\Hid ((zj h 32||x.segs.length==0)= !v)/\Wq=wx)
                case first=>
                 go_wp2_with fail;refine(hh _ hcW).mono ?_;rintro e w1 ⟨rfl,rfl⟩
                 cases hq4:zj h 32
                 ·exact zz18
                 ·exact zz18
                case rest=>
                 obtain⟨v,rfl,HV50,rfl⟩:=hcut;clear hh
                 cases v with
                 |true=>
                  have E:Hid (zB u.lits.length x h lo hi=false):=zzH (by rw [HG5.out,HV50.out];rfl);exact zz19
                 |false=>
                  have HV5:Hid ((zj h 32||x.segs.length==0)=true):=zzH (by rw [HV50.out];rfl);have E:Hid (zB u.lits.length x h lo hi=true):=zzH (by rw [HG5.out,HV5.out]);exact zz19
open Go.RowKit Go.Maps Go.WideMaps
theorem zlj:laidOutB Tryz.prog=true:=by kernel_rfl
theorem sigLaw:Keyed Tryz.prog 108:=Keyed.of_law (deep_law_laid zlj (m:=2) (by omega) (zza (by kernel_rfl)) (by kernel_rfl) (by rw [Tryz.underlying108]))
theorem zks (w:World):(zeroValue 4).run Tryz.prog w= .ok (.bool false) w:=by kernel_rfl
def zbW (s:ByteArray) (a:Int):Lit:=.string (keyBytes [.string s.data.toList,.int .i64 a])
theorem zic:Tryz.prog.keyType 108=true:=by kernel_rfl
theorem sigCells:Tryz.prog.cellsOf 108=2:=by kernel_rfl
theorem ziU:Tryz.prog.cellsOf 9=1:=by kernel_rfl
theorem zjH:Tryz.prog.cellsOf 3=1:=by kernel_rfl
theorem zkn: ∃m,Tryz.prog.types.size+1=m+1+1:=⟨Tryz.prog.types.size-1,by have:0<Tryz.prog.types.size:=zza (by kernel_rfl);omega⟩
theorem zbZ {s:ByteArray} {a:Int} (hs:s.size<=maxLen) (ha:I64 a):keyOf Tryz.prog 108 (.agg #[.string s,.int .i64 a])=some (zbW s a):=by
 have hwf:(Lit.int .i64 a).wf=true:=by
  obtain⟨h1,h2⟩:=ha;simp [Lit.wf,IntKind.min,IntKind.max,IntKind.bits,IntKind.signed];omega
 unfold keyOf zbW;simp only [Tryz.underlying108];rw [if_pos (by simp [zic,Value.formed,Tryz.underlying108,sigCells])];obtain⟨m,hm⟩:=zkn;rw [hm];unfold Program.keyLits;simp only [Tryz.underlying108,Value.cells];simp [Program.keyLits,Tryz.underlying9,Tryz.underlying3,ziU,zjH,hs,hwf];exact sigCells.symm
theorem zeT {s s':ByteArray} {a a':Int} (hs:s.size<=maxLen) (hs':s'.size<=maxLen) (ha:I64 a) (ha':I64 a') (h:zbW s a=zbW s' a'):s=s'/\a=a':=by
 have h1:=zbZ hs ha;have h2:=zbZ hs' ha';rw [<-h]at h2;have h3:=sigLaw.inj h1 h2;injection h3 with h3;have h4:=congrArg Array.toList h3;simp at h4;exact h4
def SigIs (w:World) (M n:Nat) (S:ByteArray->Int->Bool):Prop:= ∃D:DataW Unit,w.ownsMap Tryz.prog 108 (plainElem Tryz.prog 4) M n D/\ ∀(s:ByteArray) (a:Int),s.size<=maxLen->I64 a->D.atKey (zbW s a) (.lit (.bool false))= .lit (.bool (S s a))
theorem SigIs.kept {w w':World} {M n:Nat} {S:ByteArray->Int->Bool} (h:SigIs w M n S) (hb:Below w.heap.size w w'):SigIs w' M n S:=by
 obtain⟨D,h1,h2⟩:=h;exact⟨D,h1.kept (row:=none) ⟨hb.os,hb.tape,hb.output,hb.size,fun k hk _=>hb.block k hk⟩ (by simp),h2⟩
theorem SigIs.lt {w:World} {M n:Nat} {S:ByteArray->Int->Bool} (h:SigIs w M n S):M<w.heap.size:=h.elim fun _ h=>h.1.lt
theorem zkG (w:World):SigIs (w.alloc (.map #[] 0)) w.heap.size 0 (fun _ _=>false):=⟨_,World.ownsMap_made w _ _ _,fun s a _ _=>rfl⟩
theorem zeg {P:Program} {e:TypeId} (he:P.underlying e=some .bool) {v:Value} {z:DataW Unit × List MemPlace} (h:plainElem P e v=some z): ∃c,v= .bool c/\z=(.lit (.bool c),[]):=by
 unfold plainElem at h;rw [he]at h
 cases v<;>simp at h
 exact⟨_,rfl,h.symm⟩
theorem zjY {w:World} {M n:Nat} {S:ByteArray->Int->Bool} (h:SigIs w M n S) {s:ByteArray} {a:Int} (hs:s.size<=maxLen) (ha:I64 a):
  (Instr.lookup 147 (.map (some M)) (.agg #[.string s,.int .i64 a]) false).run Tryz.prog w= .ok (.bool (S s a)) w:=by
 obtain⟨D,h1,h2⟩:=h;obtain⟨v,ps,hrun,hv⟩:=h1.lookup sigLaw Tryz.underlying147 (zks w) (plainElem_bool Tryz.underlying4 false) (zbZ hs ha);obtain⟨c,rfl,hc⟩:=zeg Tryz.underlying4 hv;rw [h2 s a hs ha]at hc;have e1:(DataW.lit (.bool (S s a)):DataW Unit)= .lit (.bool c):=congrArg Prod.fst hc;have e2:S s a=c:=by injection e1 with e1;injection e1
 rw [hrun,e2]
theorem zlw {w w':World} {M n:Nat} {S:ByteArray->Int->Bool} {D:DataW Unit} (h1:w.ownsMap Tryz.prog 108 (plainElem Tryz.prog 4) M n D) (h2: ∀(s:ByteArray) (a:Int),s.size<=maxLen->I64 a->D.atKey (zbW s a) (.lit (.bool false))= .lit (.bool (S s a)))
  {s:ByteArray} {a:Int} (hs:s.size<=maxLen) (ha:I64 a) (h3:w'.ownsMap Tryz.prog 108 (plainElem Tryz.prog 4) M (n+1) (D.put (zbW s a) (.lit (.bool true)))):SigIs w' M (n+1) (fun s' a'=>(s.data.toList==s'.data.toList&&a==a')||S s' a'):=by
 refine⟨_,h3,fun s' a' hs' ha'=>?_⟩;by_cases e:s'=s/\a'=a
 ·obtain⟨rfl,rfl⟩:=e
  rw [atKey_put_same h1.isMap (sigLaw.key (zbZ hs ha))];simp
 ·rw [atKey_put_other (fun h=>e (zeT hs' hs ha' ha h)),h2 s' a' hs' ha']
  have:(s.data.toList==s'.data.toList&&a==a')=false:=by
   cases h:(s.data.toList==s'.data.toList&&a==a')with
   |false=>rfl
   |true=>
    rw [zzq6,beq_iff_eq,beq_iff_eq]at h;exact absurd ⟨ByteArray.ext (Array.toList_inj.1 h.1.symm),h.2.symm⟩ e
  simp only [this,zzq8]
section
variable {P:Program} {ops:Array Oper} {Q:Exit->Act->World->Prop} {md:Region.Mode}
theorem mem_ready {listed:Array Bool} {i:Nat} {o:Oper} (hi:ops[i]?=some o) (h1:listed.getD i true=false) (h2: ∀e∈o.after,Region.binds md e=true->listed.getD e.on false=true):i∈Region.ready md ops listed:=by
 unfold Region.ready;refine List.mem_filter.2 ⟨List.mem_range.2 (Array.getElem?_eq_some_iff.1 hi).1,?_⟩;rw [zzq6,hi];refine⟨by rw [h1];rfl,?_⟩;show o.after.all _=true;refine Array.all_eq_true_iff_forall_mem.2 fun e he=>?_
 cases hb:Region.binds md e with
 |false=>rfl
 |true=>rw [h2 e he hb];rfl
theorem zhH {i:Nat} {o:Oper} {K:Act->World->Prop} {a:Act} {w:World} (ho:ops[i]?=some o) (hg:o.guard=none) (h:o.wp P a w K Q):wpOp P ops Q i K a w:=by
 unfold wpOp;rw [ho];have hw:Region.wanted o (yielded ops a.tmps)=true:=by simp [Region.wanted,hg]
 simp only [hw,if_true];exact .inl h
end
section
variable {P:Program} {ops:Array Oper} {Q:Exit->Act->World->Prop} {md:Region.Mode} {S1:World->Prop} {p:Nat}
theorem zh2 {i j:Nat} {oi oj:Oper} {fuel:Nat} {listed:Array Bool} {a:Act} {w:World} (hr:Region.ready md ops listed= [i,j]) (hi:ops[i]?=some oi) (hj:ops[j]?=some oj) (gi:oi.guard=none) (gj:oj.guard=none)
  (h1: ∀K:Act->World->Prop,Hid (∀a' w',S1 w'->zW P md ops Q p S1 (fun _=>True) fuel (listed.setIfInBounds i true) a' w'->K a' w')->Oper.wp P oi a w K Q)
  (h2: ∀K:Act->World->Prop,Hid (∀a' w',S1 w'->zW P md ops Q p S1 (fun _=>True) fuel (listed.setIfInBounds j true) a' w'->K a' w')->Oper.wp P oj a w K Q):
  zW P md ops Q p S1 (fun _=>True) (fuel+1) listed a w:=by
 refine⟨fun h0=>(by rw [hr]at h0;cases h0),fun k hk=>?_⟩;rw [hr]at hk;rcases List.mem_cons.1 hk with rfl|hk
 ·exact zhH hi gi (h1 _ (zzH fun a' w' x y=>⟨⟨x,fun _=>trivial⟩,y⟩))
 ·rw [List.mem_singleton]at hk
  subst hk;exact zhH hj gj (h2 _ (zzH fun a' w' x y=>⟨⟨x,fun _=>trivial⟩,y⟩))
end
def zh (nf:Nat) (funs:List RFun) (x:RIns):Bool:=
 if x.op=4 then wi x.n 0 ((funs.length:Int)-1)&&(match funs[x.n.toNat]? with
  |some f=>decide ((x.src.length:Int)=f.free)
  |none=>false)
 else if x.op=5 then wi x.n 0 254 else if x.op=9 then wi x.n 0 255 else if x.op=16\/x.op=17 then wi x.n 0 ((nf:Int)-1)
 else if x.op=15\/x.op=18\/x.op=19\/x.op=20\/x.op=21 then wi x.n 0 16 else if x.op=24 then wi x.n 1 8192 else if x.op=31 then wi x.n 0 3
 else if x.op=32\/x.op=33 then decide (x.n=1)||decide (x.n=8)else true
theorem zj5 (B:Nat) (u:RUnit) (lo' fo go' co':zzA) (lc fc gc' cc':Nat) (b o:Nat) (x:RIns) (so co go:zzA) (sc cc gc:Nat) (w:World) (hu:UBox w B u lo' fo go' co' lc fc gc' cc') (hl:u.funcs.length<=9223372036854775807) (hl2:u.funs.length<=9223372036854775807) (hf:SlAt w 3 zbB go' u.funs) (hx:IBox w b o x so co go sc cc gc) (hop:x.op=5):
  Calls Tryz.prog 41 #[.pointer (some ⟨B,0,none⟩),.pointer (some ⟨b,o,none⟩)] w fun e w'=>e= .returned (.bool (zh u.funcs.length u.funs x))/\Below w.heap.size w w':=by
 have c0:=hx.c0;have c3:=hx.c3;have c5:=hx.c5;have b3:=hu.c3;have b4:=hu.c4;have r1:=hx.rn;have r2:=hx.rsrc;obtain⟨r1a,r1b⟩:=r1;have HF:=zzH hf;clear hu hx hf;have hw1:=zzV u.funcs.length (by omega)
 have hw2:=zzV u.funs.length (by omega)
 have E:Hid (zh u.funcs.length u.funs x=wi x.n 0 254):=zzH (by unfold zh;rw [hop];rfl);rw [hop]at c0;clear hop;go_in;go_wp2_with (go_at_call 71;refine(zl _ _ _ _).mono ?_;rintro e w1 ⟨rfl,rfl⟩);go_ret;exact⟨zi E.out.symm,zzR _ _⟩
theorem zke (B:Nat) (u:RUnit) (lo' fo go' co':zzA) (lc fc gc' cc':Nat) (b o:Nat) (x:RIns) (so co go:zzA) (sc cc gc:Nat) (w:World) (hu:UBox w B u lo' fo go' co' lc fc gc' cc') (hl:u.funcs.length<=9223372036854775807) (hl2:u.funs.length<=9223372036854775807) (hf:SlAt w 3 zbB go' u.funs) (hx:IBox w b o x so co go sc cc gc) (hop:x.op=9):
  Calls Tryz.prog 41 #[.pointer (some ⟨B,0,none⟩),.pointer (some ⟨b,o,none⟩)] w fun e w'=>e= .returned (.bool (zh u.funcs.length u.funs x))/\Below w.heap.size w w':=by
 have c0:=hx.c0;have c3:=hx.c3;have c5:=hx.c5;have b3:=hu.c3;have b4:=hu.c4;have r1:=hx.rn;have r2:=hx.rsrc;obtain⟨r1a,r1b⟩:=r1;have HF:=zzH hf;clear hu hx hf;have hw1:=zzV u.funcs.length (by omega)
 have hw2:=zzV u.funs.length (by omega)
 have E:Hid (zh u.funcs.length u.funs x=wi x.n 0 255):=zzH (by unfold zh;rw [hop];rfl);rw [hop]at c0;clear hop;go_in;go_wp2_with (go_at_call 71;refine(zl _ _ _ _).mono ?_;rintro e w1 ⟨rfl,rfl⟩);go_ret;exact⟨zi E.out.symm,zzR _ _⟩
theorem zjz (B:Nat) (u:RUnit) (lo' fo go' co':zzA) (lc fc gc' cc':Nat) (b o:Nat) (x:RIns) (so co go:zzA) (sc cc gc:Nat) (w:World) (hu:UBox w B u lo' fo go' co' lc fc gc' cc') (hl:u.funcs.length<=9223372036854775807) (hl2:u.funs.length<=9223372036854775807) (hf:SlAt w 3 zbB go' u.funs) (hx:IBox w b o x so co go sc cc gc) (hop:x.op=15):
  Calls Tryz.prog 41 #[.pointer (some ⟨B,0,none⟩),.pointer (some ⟨b,o,none⟩)] w fun e w'=>e= .returned (.bool (zh u.funcs.length u.funs x))/\Below w.heap.size w w':=by
 have c0:=hx.c0;have c3:=hx.c3;have c5:=hx.c5;have b3:=hu.c3;have b4:=hu.c4;have r1:=hx.rn;have r2:=hx.rsrc;obtain⟨r1a,r1b⟩:=r1;have HF:=zzH hf;clear hu hx hf;have hw1:=zzV u.funcs.length (by omega)
 have hw2:=zzV u.funs.length (by omega)
 have E:Hid (zh u.funcs.length u.funs x=wi x.n 0 16):=zzH (by unfold zh;rw [hop];rfl);rw [hop]at c0;clear hop;go_in;go_wp2_with (go_at_call 71;refine(zl _ _ _ _).mono ?_;rintro e w1 ⟨rfl,rfl⟩);go_ret;exact⟨zi E.out.symm,zzR _ _⟩
theorem zjA (B:Nat) (u:RUnit) (lo' fo go' co':zzA) (lc fc gc' cc':Nat) (b o:Nat) (x:RIns) (so co go:zzA) (sc cc gc:Nat) (w:World) (hu:UBox w B u lo' fo go' co' lc fc gc' cc') (hl:u.funcs.length<=9223372036854775807) (hl2:u.funs.length<=9223372036854775807) (hf:SlAt w 3 zbB go' u.funs) (hx:IBox w b o x so co go sc cc gc) (hop:x.op=18):
  Calls Tryz.prog 41 #[.pointer (some ⟨B,0,none⟩),.pointer (some ⟨b,o,none⟩)] w fun e w'=>e= .returned (.bool (zh u.funcs.length u.funs x))/\Below w.heap.size w w':=by
 have c0:=hx.c0;have c3:=hx.c3;have c5:=hx.c5;have b3:=hu.c3;have b4:=hu.c4;have r1:=hx.rn;have r2:=hx.rsrc;obtain⟨r1a,r1b⟩:=r1;have HF:=zzH hf;clear hu hx hf;have hw1:=zzV u.funcs.length (by omega)
 have hw2:=zzV u.funs.length (by omega)
 have E:Hid (zh u.funcs.length u.funs x=wi x.n 0 16):=zzH (by unfold zh;rw [hop];rfl);rw [hop]at c0;clear hop;go_in;go_wp2_with (go_at_call 71;refine(zl _ _ _ _).mono ?_;rintro e w1 ⟨rfl,rfl⟩);go_ret;exact⟨zi E.out.symm,zzR _ _⟩
theorem ziM (B:Nat) (u:RUnit) (lo' fo go' co':zzA) (lc fc gc' cc':Nat) (b o:Nat) (x:RIns) (so co go:zzA) (sc cc gc:Nat) (w:World) (hu:UBox w B u lo' fo go' co' lc fc gc' cc') (hl:u.funcs.length<=9223372036854775807) (hl2:u.funs.length<=9223372036854775807) (hf:SlAt w 3 zbB go' u.funs) (hx:IBox w b o x so co go sc cc gc) (hop:x.op=19):
  Calls Tryz.prog 41 #[.pointer (some ⟨B,0,none⟩),.pointer (some ⟨b,o,none⟩)] w fun e w'=>e= .returned (.bool (zh u.funcs.length u.funs x))/\Below w.heap.size w w':=by
 have c0:=hx.c0;have c3:=hx.c3;have c5:=hx.c5;have b3:=hu.c3;have b4:=hu.c4;have r1:=hx.rn;have r2:=hx.rsrc;obtain⟨r1a,r1b⟩:=r1;have HF:=zzH hf;clear hu hx hf;have hw1:=zzV u.funcs.length (by omega)
 have hw2:=zzV u.funs.length (by omega)
 have E:Hid (zh u.funcs.length u.funs x=wi x.n 0 16):=zzH (by unfold zh;rw [hop];rfl);rw [hop]at c0;clear hop;go_in;go_wp2_with (go_at_call 71;refine(zl _ _ _ _).mono ?_;rintro e w1 ⟨rfl,rfl⟩);go_ret;exact⟨zi E.out.symm,zzR _ _⟩
theorem ziO (B:Nat) (u:RUnit) (lo' fo go' co':zzA) (lc fc gc' cc':Nat) (b o:Nat) (x:RIns) (so co go:zzA) (sc cc gc:Nat) (w:World) (hu:UBox w B u lo' fo go' co' lc fc gc' cc') (hl:u.funcs.length<=9223372036854775807) (hl2:u.funs.length<=9223372036854775807) (hf:SlAt w 3 zbB go' u.funs) (hx:IBox w b o x so co go sc cc gc) (hop:x.op=20):
  Calls Tryz.prog 41 #[.pointer (some ⟨B,0,none⟩),.pointer (some ⟨b,o,none⟩)] w fun e w'=>e= .returned (.bool (zh u.funcs.length u.funs x))/\Below w.heap.size w w':=by
 have c0:=hx.c0;have c3:=hx.c3;have c5:=hx.c5;have b3:=hu.c3;have b4:=hu.c4;have r1:=hx.rn;have r2:=hx.rsrc;obtain⟨r1a,r1b⟩:=r1;have HF:=zzH hf;clear hu hx hf;have hw1:=zzV u.funcs.length (by omega)
 have hw2:=zzV u.funs.length (by omega)
 have E:Hid (zh u.funcs.length u.funs x=wi x.n 0 16):=zzH (by unfold zh;rw [hop];rfl);rw [hop]at c0;clear hop;go_in;go_wp2_with (go_at_call 71;refine(zl _ _ _ _).mono ?_;rintro e w1 ⟨rfl,rfl⟩);go_ret;exact⟨zi E.out.symm,zzR _ _⟩
theorem zjJ (B:Nat) (u:RUnit) (lo' fo go' co':zzA) (lc fc gc' cc':Nat) (b o:Nat) (x:RIns) (so co go:zzA) (sc cc gc:Nat) (w:World) (hu:UBox w B u lo' fo go' co' lc fc gc' cc') (hl:u.funcs.length<=9223372036854775807) (hl2:u.funs.length<=9223372036854775807) (hf:SlAt w 3 zbB go' u.funs) (hx:IBox w b o x so co go sc cc gc) (hop:x.op=21):
  Calls Tryz.prog 41 #[.pointer (some ⟨B,0,none⟩),.pointer (some ⟨b,o,none⟩)] w fun e w'=>e= .returned (.bool (zh u.funcs.length u.funs x))/\Below w.heap.size w w':=by
 have c0:=hx.c0;have c3:=hx.c3;have c5:=hx.c5;have b3:=hu.c3;have b4:=hu.c4;have r1:=hx.rn;have r2:=hx.rsrc;obtain⟨r1a,r1b⟩:=r1;have HF:=zzH hf;clear hu hx hf;have hw1:=zzV u.funcs.length (by omega)
 have hw2:=zzV u.funs.length (by omega)
 have E:Hid (zh u.funcs.length u.funs x=wi x.n 0 16):=zzH (by unfold zh;rw [hop];rfl);rw [hop]at c0;clear hop;go_in;go_wp2_with (go_at_call 71;refine(zl _ _ _ _).mono ?_;rintro e w1 ⟨rfl,rfl⟩);go_ret;exact⟨zi E.out.symm,zzR _ _⟩
theorem ziE (B:Nat) (u:RUnit) (lo' fo go' co':zzA) (lc fc gc' cc':Nat) (b o:Nat) (x:RIns) (so co go:zzA) (sc cc gc:Nat) (w:World) (hu:UBox w B u lo' fo go' co' lc fc gc' cc') (hl:u.funcs.length<=9223372036854775807) (hl2:u.funs.length<=9223372036854775807) (hf:SlAt w 3 zbB go' u.funs) (hx:IBox w b o x so co go sc cc gc) (hop:x.op=24):
  Calls Tryz.prog 41 #[.pointer (some ⟨B,0,none⟩),.pointer (some ⟨b,o,none⟩)] w fun e w'=>e= .returned (.bool (zh u.funcs.length u.funs x))/\Below w.heap.size w w':=by
 have c0:=hx.c0;have c3:=hx.c3;have c5:=hx.c5;have b3:=hu.c3;have b4:=hu.c4;have r1:=hx.rn;have r2:=hx.rsrc;obtain⟨r1a,r1b⟩:=r1;have HF:=zzH hf;clear hu hx hf;have hw1:=zzV u.funcs.length (by omega)
 have hw2:=zzV u.funs.length (by omega)
 have E:Hid (zh u.funcs.length u.funs x=wi x.n 1 8192):=zzH (by unfold zh;rw [hop];rfl);rw [hop]at c0;clear hop;go_in;go_wp2_with (go_at_call 71;refine(zl _ _ _ _).mono ?_;rintro e w1 ⟨rfl,rfl⟩);go_ret;exact⟨zi E.out.symm,zzR _ _⟩
theorem ziG (B:Nat) (u:RUnit) (lo' fo go' co':zzA) (lc fc gc' cc':Nat) (b o:Nat) (x:RIns) (so co go:zzA) (sc cc gc:Nat) (w:World) (hu:UBox w B u lo' fo go' co' lc fc gc' cc') (hl:u.funcs.length<=9223372036854775807) (hl2:u.funs.length<=9223372036854775807) (hf:SlAt w 3 zbB go' u.funs) (hx:IBox w b o x so co go sc cc gc) (hop:x.op=31):
  Calls Tryz.prog 41 #[.pointer (some ⟨B,0,none⟩),.pointer (some ⟨b,o,none⟩)] w fun e w'=>e= .returned (.bool (zh u.funcs.length u.funs x))/\Below w.heap.size w w':=by
 have c0:=hx.c0;have c3:=hx.c3;have c5:=hx.c5;have b3:=hu.c3;have b4:=hu.c4;have r1:=hx.rn;have r2:=hx.rsrc;obtain⟨r1a,r1b⟩:=r1;have HF:=zzH hf;clear hu hx hf;have hw1:=zzV u.funcs.length (by omega)
 have hw2:=zzV u.funs.length (by omega)
 have E:Hid (zh u.funcs.length u.funs x=wi x.n 0 3):=zzH (by unfold zh;rw [hop];rfl);rw [hop]at c0;clear hop;go_in;go_wp2_with (go_at_call 71;refine(zl _ _ _ _).mono ?_;rintro e w1 ⟨rfl,rfl⟩);go_ret;exact⟨zi E.out.symm,zzR _ _⟩
theorem zjU (B:Nat) (u:RUnit) (lo' fo go' co':zzA) (lc fc gc' cc':Nat) (b o:Nat) (x:RIns) (so co go:zzA) (sc cc gc:Nat) (w:World) (hu:UBox w B u lo' fo go' co' lc fc gc' cc') (hl:u.funcs.length<=9223372036854775807) (hl2:u.funs.length<=9223372036854775807) (hf:SlAt w 3 zbB go' u.funs) (hx:IBox w b o x so co go sc cc gc) (hop:x.op=16):
  Calls Tryz.prog 41 #[.pointer (some ⟨B,0,none⟩),.pointer (some ⟨b,o,none⟩)] w fun e w'=>e= .returned (.bool (zh u.funcs.length u.funs x))/\Below w.heap.size w w':=by
 have c0:=hx.c0;have c3:=hx.c3;have c5:=hx.c5;have b3:=hu.c3;have b4:=hu.c4;have r1:=hx.rn;have r2:=hx.rsrc;obtain⟨r1a,r1b⟩:=r1;have HF:=zzH hf;clear hu hx hf;have hw1:=zzV u.funcs.length (by omega)
 have hw2:=zzV u.funs.length (by omega)
 have E:Hid (zh u.funcs.length u.funs x=wi x.n 0 ((u.funcs.length:Int)-1)):=zzH (by unfold zh;rw [hop];rfl);rw [hop]at c0;clear hop;go_in;go_wp2_with fail;go_quiet ((go_at_call 71;exact zze ((zl _ _ _ _).mono fun _ _ ⟨a,b⟩=>⟨a,b.symm⟩)));go_wp2;go_ret;exact⟨zi E.out.symm,zg (zzR _ _) _⟩
theorem zjL (B:Nat) (u:RUnit) (lo' fo go' co':zzA) (lc fc gc' cc':Nat) (b o:Nat) (x:RIns) (so co go:zzA) (sc cc gc:Nat) (w:World) (hu:UBox w B u lo' fo go' co' lc fc gc' cc') (hl:u.funcs.length<=9223372036854775807) (hl2:u.funs.length<=9223372036854775807) (hf:SlAt w 3 zbB go' u.funs) (hx:IBox w b o x so co go sc cc gc) (hop:x.op=17):
  Calls Tryz.prog 41 #[.pointer (some ⟨B,0,none⟩),.pointer (some ⟨b,o,none⟩)] w fun e w'=>e= .returned (.bool (zh u.funcs.length u.funs x))/\Below w.heap.size w w':=by
 have c0:=hx.c0;have c3:=hx.c3;have c5:=hx.c5;have b3:=hu.c3;have b4:=hu.c4;have r1:=hx.rn;have r2:=hx.rsrc;obtain⟨r1a,r1b⟩:=r1;have HF:=zzH hf;clear hu hx hf;have hw1:=zzV u.funcs.length (by omega)
 have hw2:=zzV u.funs.length (by omega)
 have E:Hid (zh u.funcs.length u.funs x=wi x.n 0 ((u.funcs.length:Int)-1)):=zzH (by unfold zh;rw [hop];rfl);rw [hop]at c0;clear hop;go_in;go_wp2_with fail;go_quiet ((go_at_call 71;exact zze ((zl _ _ _ _).mono fun _ _ ⟨a,b⟩=>⟨a,b.symm⟩)));go_wp2;go_ret;exact⟨zi E.out.symm,zg (zzR _ _) _⟩
theorem zjT (B:Nat) (u:RUnit) (lo' fo go' co':zzA) (lc fc gc' cc':Nat) (b o:Nat) (x:RIns) (so co go:zzA) (sc cc gc:Nat) (w:World) (hu:UBox w B u lo' fo go' co' lc fc gc' cc') (hl:u.funcs.length<=9223372036854775807) (hl2:u.funs.length<=9223372036854775807) (hf:SlAt w 3 zbB go' u.funs) (hx:IBox w b o x so co go sc cc gc) (hop:x.op=32):
  Calls Tryz.prog 41 #[.pointer (some ⟨B,0,none⟩),.pointer (some ⟨b,o,none⟩)] w fun e w'=>e= .returned (.bool (zh u.funcs.length u.funs x))/\Below w.heap.size w w':=by
 have c0:=hx.c0;have c3:=hx.c3;have c5:=hx.c5;have b3:=hu.c3;have b4:=hu.c4;have r1:=hx.rn;have r2:=hx.rsrc;obtain⟨r1a,r1b⟩:=r1;have HF:=zzH hf;clear hu hx hf;have hw1:=zzV u.funcs.length (by omega)
 have hw2:=zzV u.funs.length (by omega)
 have E:Hid (zh u.funcs.length u.funs x=(decide (x.n=1)||decide (x.n=8))):=zzH (by unfold zh;rw [hop];rfl);rw [hop]at c0;clear hop;by_cases n1:x.n=1
 ·exact zz55
 ·exact zz54
theorem ziZ (B:Nat) (u:RUnit) (lo' fo go' co':zzA) (lc fc gc' cc':Nat) (b o:Nat) (x:RIns) (so co go:zzA) (sc cc gc:Nat) (w:World) (hu:UBox w B u lo' fo go' co' lc fc gc' cc') (hl:u.funcs.length<=9223372036854775807) (hl2:u.funs.length<=9223372036854775807) (hf:SlAt w 3 zbB go' u.funs) (hx:IBox w b o x so co go sc cc gc) (hop:x.op=33):
  Calls Tryz.prog 41 #[.pointer (some ⟨B,0,none⟩),.pointer (some ⟨b,o,none⟩)] w fun e w'=>e= .returned (.bool (zh u.funcs.length u.funs x))/\Below w.heap.size w w':=by
 have c0:=hx.c0;have c3:=hx.c3;have c5:=hx.c5;have b3:=hu.c3;have b4:=hu.c4;have r1:=hx.rn;have r2:=hx.rsrc;obtain⟨r1a,r1b⟩:=r1;have HF:=zzH hf;clear hu hx hf;have hw1:=zzV u.funcs.length (by omega)
 have hw2:=zzV u.funs.length (by omega)
 have E:Hid (zh u.funcs.length u.funs x=(decide (x.n=1)||decide (x.n=8))):=zzH (by unfold zh;rw [hop];rfl);rw [hop]at c0;clear hop;by_cases n1:x.n=1
 ·exact zz55
 ·exact zz54
theorem zhi (B:Nat) (u:RUnit) (lo' fo go' co':zzA) (lc fc gc' cc':Nat) (b o:Nat) (x:RIns) (so co go:zzA) (sc cc gc:Nat) (w:World) (hu:UBox w B u lo' fo go' co' lc fc gc' cc') (hl:u.funcs.length<=9223372036854775807) (hl2:u.funs.length<=9223372036854775807) (hf:SlAt w 3 zbB go' u.funs) (hx:IBox w b o x so co go sc cc gc) (h5: ¬x.op=5) (h9: ¬x.op=9) (h15: ¬x.op=15) (h18: ¬x.op=18) (h19: ¬x.op=19) (h20: ¬x.op=20) (h21: ¬x.op=21) (h24: ¬x.op=24) (h31: ¬x.op=31) (h16: ¬x.op=16) (h17: ¬x.op=17) (h32: ¬x.op=32) (h33: ¬x.op=33) (h4: ¬x.op=4):
  Calls Tryz.prog 41 #[.pointer (some ⟨B,0,none⟩),.pointer (some ⟨b,o,none⟩)] w fun e w'=>e= .returned (.bool (zh u.funcs.length u.funs x))/\Below w.heap.size w w':=by
 have c0:=hx.c0;have c3:=hx.c3;have c5:=hx.c5;have b3:=hu.c3;have b4:=hu.c4;have r1:=hx.rn;have r2:=hx.rsrc;obtain⟨r1a,r1b⟩:=r1;have HF:=zzH hf;clear hu hx hf;have hw1:=zzV u.funcs.length (by omega)
 have hw2:=zzV u.funs.length (by omega)
 have E:Hid (zh u.funcs.length u.funs x=true):=zzH (by unfold zh;rw [if_neg h4,if_neg h5,if_neg h9,if_neg (by omega),if_neg (by omega),if_neg h24,if_neg h31,if_neg (by omega)]);have t5:(x.op==5)=false:=zzB.2 h5;have t9:(x.op==9)=false:=zzB.2 h9;have t15:(x.op==15)=false:=zzB.2 h15;have t18:(x.op==18)=false:=zzB.2 h18;have t19:(x.op==19)=false:=zzB.2 h19;have t20:(x.op==20)=false:=zzB.2 h20;have t21:(x.op==21)=false:=zzB.2 h21;have t24:(x.op==24)=false:=zzB.2 h24;have t31:(x.op==31)=false:=zzB.2 h31;have t16:(x.op==16)=false:=zzB.2 h16;have t17:(x.op==17)=false:=zzB.2 h17;have t32:(x.op==32)=false:=zzB.2 h32;have t33:(x.op==33)=false:=zzB.2 h33;have t4:(x.op==4)=false:=zzB.2 h4;clear h5 h9 h15 h18 h19 h20 h21 h24 h31 h16 h17 h32 h33 h4;go_in;go_wp2;go_ret;exact⟨zi E.out.symm,zzR _ _⟩
theorem zkS (B:Nat) (u:RUnit) (lo' fo go' co':zzA) (lc fc gc' cc':Nat) (b o:Nat) (x:RIns) (so co go:zzA) (sc cc gc:Nat) (w:World) (hu:UBox w B u lo' fo go' co' lc fc gc' cc') (hl:u.funcs.length<=9223372036854775807) (hl2:u.funs.length<=9223372036854775807) (hf:SlAt w 3 zbB go' u.funs) (hx:IBox w b o x so co go sc cc gc) (hop:x.op=4):
  Calls Tryz.prog 41 #[.pointer (some ⟨B,0,none⟩),.pointer (some ⟨b,o,none⟩)] w fun e w'=>e= .returned (.bool (zh u.funcs.length u.funs x))/\Below w.heap.size w w':=by
 have c0:=hx.c0;have c3:=hx.c3;have c5:=hx.c5;have b3:=hu.c3;have b4:=hu.c4;have r1:=hx.rn;have r2:=hx.rsrc;obtain⟨r1a,r1b⟩:=r1;have HF:=zzH hf;clear hu hx hf;have hw1:=zzV u.funcs.length (by omega)
 have hw2:=zzV u.funs.length (by omega)
 have E:Hid (zh u.funcs.length u.funs x=(wi x.n 0 ((u.funs.length:Int)-1)&&(match u.funs[x.n.toNat]? with
   |some f=>decide ((x.src.length:Int)=f.free)
   |none=>false))):=zzH (by unfold zh;rw [hop];rfl)
 rw [hop]at c0;clear hop
 cases hw:wi x.n 0 ((u.funs.length:Int)-1)with
 |false=>
  have E2:Hid (zh u.funcs.length u.funs x=false):=zzH (by rw [E.out,hw];rfl)
  have hwr: ∀wx,Calls Tryz.prog 71 #[.int .i64 x.n,.int .i64 0,.int .i64 ((u.funs.length:Int)-1)] wx fun e w'=>e= .returned (.bool false)/\w'=wx:=fun wx=>by
   have:=zl x.n 0 ((u.funs.length:Int)-1) wx;rw [hw]at this;exact this.mono fun _ _ ⟨a,b⟩=>⟨a,b.symm⟩
  clear hw E;go_in;go_wp2_with fail;go_quiet ((go_at_call 71;exact zze (hwr _)));go_wp2;go_ret;exact⟨zi E2.out.symm,zg (zzR _ _) _⟩
 |true=>
  have hr:0<=x.n/\x.n<=(u.funs.length:Int)-1:=by
   unfold wi at hw;rw [zzq6,zzq9,zzq9]at hw;exact hw
  obtain⟨m,hm⟩:=zzJ hr.1;have hml:m<u.funs.length:=by omega
  obtain⟨b2,off,hao,hb2,q0,q1,q2,_,_,_⟩:=HF.out.fn hml;subst hao
  have E2:Hid (zh u.funcs.length u.funs x=decide ((x.src.length:Int)=u.funs[m].free)):=zzH (by
   rw [E.out,hw,hm];have:u.funs[(((m:Nat):Int)).toNat]?=some u.funs[m]:=by rw [zzq13];exact zzq4 hml
   rw [this];rfl)
  have hwr: ∀wx,Calls Tryz.prog 71 #[.int .i64 (m:Int),.int .i64 0,.int .i64 ((u.funs.length:Int)-1)] wx fun e w'=>e= .returned (.bool true)/\w'=wx:=fun wx=>by
   have:=zl (m:Int) 0 ((u.funs.length:Int)-1) wx;rw [<-hm,hw]at this;rw [<-hm];exact this.mono fun _ _ ⟨a,b⟩=>⟨a,b.symm⟩
  rw [hm]at c5;clear hw hr E r1a r1b;generalize u.funs[m].free=z at *;generalize x.n=xn at *;by_cases hz:(x.src.length:Int)=z
  ·have E3:Hid (zh u.funcs.length u.funs x=true):=zzH (by rw [E2.out,decide_eq_true hz])
   have t:((x.src.length:Int)==z)=true:=by rw [hz];exact beq_self_eq_true _
   exact zz56
  ·have E3:Hid (zh u.funcs.length u.funs x=false):=zzH (by rw [E2.out,decide_eq_false hz])
   have t:((x.src.length:Int)==z)=false:=zzB.2 hz;exact zz56
theorem zid (B:Nat) (u:RUnit) (lo' fo go' co':zzA) (lc fc gc' cc':Nat) (b o:Nat) (x:RIns) (so co go:zzA) (sc cc gc:Nat) (w:World) (hu:UBox w B u lo' fo go' co' lc fc gc' cc') (hl:u.funcs.length<=9223372036854775807) (hl2:u.funs.length<=9223372036854775807) (hf:SlAt w 3 zbB go' u.funs) (hx:IBox w b o x so co go sc cc gc):
  Calls Tryz.prog 41 #[.pointer (some ⟨B,0,none⟩),.pointer (some ⟨b,o,none⟩)] w fun e w'=>e= .returned (.bool (zh u.funcs.length u.funs x))/\Below w.heap.size w w':=by
 by_cases h5:x.op=5
 ·exact zj5 B u lo' fo go' co' lc fc gc' cc' b o x so co go sc cc gc w hu hl hl2 hf hx h5
 by_cases h9:x.op=9
 ·exact zke B u lo' fo go' co' lc fc gc' cc' b o x so co go sc cc gc w hu hl hl2 hf hx h9
 by_cases h15:x.op=15
 ·exact zjz B u lo' fo go' co' lc fc gc' cc' b o x so co go sc cc gc w hu hl hl2 hf hx h15
 by_cases h18:x.op=18
 ·exact zjA B u lo' fo go' co' lc fc gc' cc' b o x so co go sc cc gc w hu hl hl2 hf hx h18
 by_cases h19:x.op=19
 ·exact ziM B u lo' fo go' co' lc fc gc' cc' b o x so co go sc cc gc w hu hl hl2 hf hx h19
 by_cases h20:x.op=20
 ·exact ziO B u lo' fo go' co' lc fc gc' cc' b o x so co go sc cc gc w hu hl hl2 hf hx h20
 by_cases h21:x.op=21
 ·exact zjJ B u lo' fo go' co' lc fc gc' cc' b o x so co go sc cc gc w hu hl hl2 hf hx h21
 by_cases h24:x.op=24
 ·exact ziE B u lo' fo go' co' lc fc gc' cc' b o x so co go sc cc gc w hu hl hl2 hf hx h24
 by_cases h31:x.op=31
 ·exact ziG B u lo' fo go' co' lc fc gc' cc' b o x so co go sc cc gc w hu hl hl2 hf hx h31
 by_cases h16:x.op=16
 ·exact zjU B u lo' fo go' co' lc fc gc' cc' b o x so co go sc cc gc w hu hl hl2 hf hx h16
 by_cases h17:x.op=17
 ·exact zjL B u lo' fo go' co' lc fc gc' cc' b o x so co go sc cc gc w hu hl hl2 hf hx h17
 by_cases h32:x.op=32
 ·exact zjT B u lo' fo go' co' lc fc gc' cc' b o x so co go sc cc gc w hu hl hl2 hf hx h32
 by_cases h33:x.op=33
 ·exact ziZ B u lo' fo go' co' lc fc gc' cc' b o x so co go sc cc gc w hu hl hl2 hf hx h33
 by_cases h4:x.op=4
 ·exact zkS B u lo' fo go' co' lc fc gc' cc' b o x so co go sc cc gc w hu hl hl2 hf hx h4
 exact zhi B u lo' fo go' co' lc fc gc' cc' b o x so co go sc cc gc w hu hl hl2 hf hx h5 h9 h15 h18 h19 h20 h21 h24 h31 h16 h17 h32 h33 h4
section
variable {H:Type} {enc:TypeId × Value->H} {P:Program} {w:World} {base:Nat} {spare:Nat->Bool} {held:Bool}
def Wt (P:Program) (t:TypeId) (d:DataW H):Prop:=(d.weights P t).all (· <=reachBytes)=true
theorem zfq: ∀(ts:List TypeId) (ds:List (DataW H)),(DataW.weightsEach P ts ds).all (· <=reachBytes)=true-> ∀(i:Nat) (t:TypeId) (d:DataW H),ts[i]?=some t->ds[i]?=some d->Wt P t d
 |[],_,_,i,t,d,h,_=>by simp at h
 |_::_,[],_,i,t,d,_,h=>by simp at h
 |t0::ts,d0::ds,h,i,t,d,ht,hd=>by
  unfold DataW.weightsEach at h;rw [List.all_append,zzq6]at h
  cases i with
  |zero=>
   simp at ht hd;subst ht;subst hd;exact h.1
  |succ i=>exact zfq ts ds h.2 i t d (by simpa using ht) (by simpa using hd)
theorem zjl (e:TypeId): ∀(ds:List (DataW H)),(DataW.weightsAll P e ds).all (· <=reachBytes)=true-> ∀d∈ds,Wt P e d
 |[],_,_,h=>by cases h
 |d0::ds,h,d,hd=>by
  unfold DataW.weightsAll at h;rw [List.all_append,zzq6]at h;rcases List.mem_cons.1 hd with rfl|hd
  ·exact h.1
  ·exact zjl e ds h.2 d hd
theorem zbR {t:TypeId} {fuel:Nat} {cs:List Value} {x:DataW H × List MemPlace} {fs:Array Field} (hS:P.underlying t=some (.struct fs)) (h:DataW.trod enc P w base spare held fuel t cs=some x) (hw:Wt P t x.1):
  ∃n,fuel=n+1/\cs.length=P.cellsOf t/\ ∀(i:Nat) (f:Field) (ty:TypeId) (o m:Nat),fs[i]?=some f->f.type=ty->f.offset=o->P.cellsOf ty=m-> ∃y,DataW.trod enc P w base spare held n ty ((cs.drop o).take m)=some y/\Wt P ty y.1:=by
 obtain⟨xs,n,rfl,rfl,hl,hxl,hx⟩:=DataW.trod_struct hS h;refine⟨n,rfl,hl,fun i f ty o m hf e1 e2 e3=>?_⟩;have hi:=hx i f hf;have hil:i<xs.length:=by rw [hxl];exact(Array.getElem?_eq_some_iff.1 hf).1
 rw [zzq4 hil]at hi;refine⟨xs[i],by rw [<-e1,<-e2,<-e3,<-e1];exact hi,?_⟩;unfold Wt DataW.weights at hw;simp only [hS]at hw;refine zfq _ _ hw i ty _ ?_ (by rw [List.getElem?_map,zzq4 hil];rfl);rw [List.getElem?_map,<-e1];simp [hf]
theorem zjj {t:TypeId} {fuel:Nat} {cs:List Value} {x:DataW H × List MemPlace} (ht:P.underlying t=some .string) (h:DataW.trod enc P w base spare held fuel t cs=some x) (hw:Wt P t x.1): ∃s,cs= [.string s]/\s.size<=140737488351232:=by
 obtain⟨s,e,rfl,hs⟩:=DataW.trod_string ht h;refine⟨s,e,?_⟩;unfold Wt DataW.weights at hw;have h1:s.data.toList.length<=reachBytes:=zza (zzp.1 hw _ (zzP.2 rfl));rw [Array.length_toList]at h1;exact h1
theorem ze0 {t:TypeId} {fuel:Nat} {cs:List Value} {x:DataW H × List MemPlace} (ht:P.underlying t=some .bool) (h:DataW.trod enc P w base spare held fuel t cs=some x): ∃b,cs= [.bool b]:=by
 obtain⟨b,e,_⟩:=DataW.trod_bool ht h;exact⟨b,e⟩
theorem zcd {α:Type} {t e:TypeId} {size fuel:Nat} {cs:List Value} {x:DataW H × List MemPlace} (R:List Value->α->Prop) (ht:P.underlying t=some (.slice e)) (hC:P.cellsOf e=size) (h0:0<size)
  (h:DataW.trod enc P w base spare held fuel t cs=some x) (hw:Wt P t x.1)
  (hR: ∀n cs' y,n<fuel->cs'.length=size->DataW.trod enc P w base spare held n e cs'=some y->Wt P e y.1-> ∃a,R cs' a):
  ∃ao c l,cs= [.slice ao l.length c]/\SlAt w size R ao l/\l.length<=maxLen:=by
 rcases DataW.trod_slice ht h with⟨e1,_⟩|⟨a,len,cap,elems,rest,n,hf,e1,rfl,hb,hl,hm,hlen,hel,_,_⟩
 ·exact⟨none,0,[],e1,.inl rfl,zzZ _⟩
 ·have hwe: ∀d∈elems.map (·.1),Wt P e d:=by
   unfold Wt DataW.weights at hw;simp only [ht]at hw;rw [List.all_cons,List.all_append,zzq6,zzq6]at hw;exact zjl e _ hw.2.1
  have each: ∀i,i<len-> ∃(x:α) (cs':List Value),cs'.length=size/\(∀k,k<size->w.cell? ((a.add (i*size)).add k)=cs'[k]?)/\R cs' x:=fun i hi=>by
   have hx:=hel i hi;have hil:i<elems.length:=by omega
   rw [zzq4 hil,Option.bind_eq_some_iff]at hx;obtain⟨cs',hc,ht'⟩:=hx;rw [hC]at hc;obtain⟨_,hcl,hat⟩:=World.cells?_some hc;obtain⟨x,hx⟩:=hR n cs' _ (by omega) hcl ht' (hwe _ (List.mem_map.2 ⟨_,zzM hil,rfl⟩));exact⟨x,cs',hcl,hat,hx⟩
  have all: ∀m,m<=len-> ∃l:List α,l.length=m/\ ∀j (h:j<l.length),∃cs':List Value,cs'.length=size/\(∀k,k<size->w.cell? ((a.add (j*size)).add k)=cs'[k]?)/\R cs' l[j]:=by
   intro m
   induction m with
   |zero=>exact fun _=>⟨[],rfl,fun j h=>absurd h (zzC _)⟩
   |succ m ih=>
    intro hm';obtain⟨l,hl',hr⟩:=ih (by omega);obtain⟨x,cs',h1,h2,h3⟩:=each m (by omega);refine⟨l++ [x],by simp [hl'],fun j hj=>?_⟩;by_cases hjl:j<l.length
    ·obtain⟨cs2,g1,g2,g3⟩:=hr j hjl
     exact⟨cs2,g1,g2,by rw [List.getElem_append_left hjl];exact g3⟩
    ·have hj2:j=m:=by simp at hj;omega
     subst hj2;refine⟨cs',h1,h2,?_⟩;rw [List.getElem_append_right (by omega)]
     simpa [hl'] using h3
  obtain⟨l,hl2,hr⟩:=all len (zzL _);refine⟨some a,cap,l,by rw [hl2];exact e1,?_,by omega⟩;rcases Nat.eq_zero_or_pos len with hz|hz
  ·left;exact zzQ (by omega)
  ·right
   obtain⟨cs0,k1,k2,_⟩:=hr 0 (by omega)
   have hc0:w.cell? a=some (cs0[0]'(by omega)):=by
    have:=k2 0 h0;rw [Nat.zero_mul]at this;rw [<-zzq4,<-this];rfl
   have hsp:=World.cell?_spot (a:=a) hc0;obtain⟨b,off,sp⟩:=a;simp only at hsp;subst hsp;have hadd: ∀k,(⟨b,off,none⟩:Addr).add k=⟨b,off+k,none⟩:=fun k=>by unfold Addr.add;split<;>simp_all
   have hadd2: ∀o k,(⟨b,o,none⟩:Addr).add k=⟨b,o+k,none⟩:=fun o k=>by unfold Addr.add;split<;>simp_all
   refine⟨b,off,rfl,?_,fun j hj=>?_⟩
   ·rcases Nat.lt_or_ge b w.heap.size with h|h
    ·exact h
    ·simp [World.cell?,Array.getElem?_eq_none h]at hc0
   ·obtain⟨cs2,g1,g2,g3⟩:=hr j hj
    refine⟨cs2,g1,fun i hi=>?_,g3⟩;have:=g2 i hi
    rwa [hadd,hadd2]at this
end
theorem cI:Tryz.prog.cellsOf 3=1:=by kernel_rfl
theorem zkf:Tryz.prog.cellsOf 2=1:=by kernel_rfl
theorem cS:Tryz.prog.cellsOf 9=1:=by kernel_rfl
theorem cB:Tryz.prog.cellsOf 4=1:=by kernel_rfl
theorem zgV:Tryz.prog.cellsOf 42=2:=by kernel_rfl
theorem zkT:Tryz.prog.cellsOf 111=2:=by kernel_rfl
theorem zlE:Tryz.prog.cellsOf 113=6:=by kernel_rfl
theorem zkZ:Tryz.prog.cellsOf 106=4:=by kernel_rfl
theorem zlB:Tryz.prog.cellsOf 70=3:=by kernel_rfl
theorem zlP:Tryz.prog.cellsOf 47=10:=by kernel_rfl
theorem zib:Tryz.prog.cellsOf 116=9:=by kernel_rfl
theorem zmd:Tryz.prog.cellsOf 27=6:=by kernel_rfl
theorem zjF:Tryz.prog.cellsOf 22=1:=by kernel_rfl
theorem zl3:Tryz.prog.cellsOf 43=1:=by kernel_rfl
theorem zlR:Tryz.prog.cellsOf 44=1:=by kernel_rfl
theorem zmb:Tryz.prog.cellsOf 45=1:=by kernel_rfl
theorem zlH:Tryz.prog.cellsOf 23=1:=by kernel_rfl
theorem zl8:Tryz.prog.cellsOf 24=1:=by kernel_rfl
theorem zl9:Tryz.prog.cellsOf 25=1:=by kernel_rfl
theorem zmo {cs:List Value} (h:cs.length=2): ∃a b,cs= [a,b]:=by
 match cs,h with
 |[a,b],_=>exact⟨a,b,rfl⟩
theorem zmk {cs:List Value} (h:cs.length=3): ∃a b c,cs= [a,b,c]:=by
 match cs,h with
 |[a,b,c],_=>exact⟨a,b,c,rfl⟩
theorem zmt {cs:List Value} (h:cs.length=4): ∃a b c d,cs= [a,b,c,d]:=by
 match cs,h with
 |[a,b,c,d],_=>exact⟨a,b,c,d,rfl⟩
theorem zlW {cs:List Value} (h:cs.length=6): ∃a b c d e f,cs= [a,b,c,d,e,f]:=by
 match cs,h with
 |[a,b,c,d,e,f],_=>exact⟨a,b,c,d,e,f,rfl⟩
theorem zmu {cs:List Value} (h:cs.length=9): ∃a b c d e f g i j,cs= [a,b,c,d,e,f,g,i,j]:=by
 match cs,h with
 |[a,b,c,d,e,f,g,i,j],_=>exact⟨a,b,c,d,e,f,g,i,j,rfl⟩
theorem zl6 {cs:List Value} (h:cs.length=10): ∃a b c d e f g i j k,cs= [a,b,c,d,e,f,g,i,j,k]:=by
 match cs,h with
 |[a,b,c,d,e,f,g,i,j,k],_=>exact⟨a,b,c,d,e,f,g,i,j,k,rfl⟩
theorem zG {a b:Value} (h: [a]= [b]):a=b:=by injection h
section
variable {H:Type} {enc:TypeId × Value->H} {w:World} {base:Nat} {spare:Nat->Bool} {held:Bool} {fuel:Nat} {cs:List Value} {x:DataW H × List MemPlace}
theorem zdC (h:DataW.trod enc Tryz.prog w base spare held fuel 42 cs=some x) (hw:Wt Tryz.prog 42 x.1): ∃a,zcB cs a:=by
 obtain⟨n,rfl,hl,hf⟩:=zbR Tryz.underlying42 h hw;rw [zgV]at hl;exact zz107
theorem zjQ (h:DataW.trod enc Tryz.prog w base spare held fuel 111 cs=some x) (hw:Wt Tryz.prog 111 x.1): ∃a,zbP cs a:=by
 obtain⟨n,rfl,hl,hf⟩:=zbR Tryz.underlying111 h hw;rw [zkT]at hl;exact zz107
theorem zj7 (h:DataW.trod enc Tryz.prog w base spare held fuel 113 cs=some x) (hw:Wt Tryz.prog 113 x.1): ∃a,zcD cs a:=by
 obtain⟨n,rfl,hl,hf⟩:=zbR Tryz.underlying113 h hw;rw [zlE]at hl;obtain⟨a,b,c,d,e,f,rfl⟩:=zlW hl;obtain⟨y0,h0,_⟩:=hf 0 _ 3 0 1 rfl rfl rfl cI;obtain⟨y1,h1,w1⟩:=hf 1 _ 42 1 2 rfl rfl rfl zgV;obtain⟨y2,h2,w2⟩:=hf 2 _ 42 3 2 rfl rfl rfl zgV;obtain⟨y3,h3,_⟩:=hf 3 _ 4 5 1 rfl rfl rfl cB;obtain⟨n0,e0,i0⟩:=zbh Tryz.underlying3 h0;obtain⟨a1,e1,i1,j1⟩:=zdC h1 w1;obtain⟨a2,e2,i2,j2⟩:=zdC h2 w2;obtain⟨b3,e3⟩:=ze0 Tryz.underlying4 h3;obtain rfl:=zG e0;obtain rfl:=zG e3;have e1': [b,c]= [Value.int .i64 a1.kind,.int .i64 a1.n]:=e1;have e2': [d,e]= [Value.int .i64 a2.kind,.int .i64 a2.n]:=e2;simp only [List.cons.injEq,and_true]at e1' e2';obtain⟨rfl,rfl⟩:=e1';obtain⟨rfl,rfl⟩:=e2';exact⟨⟨n0,a1,a2,b3⟩,rfl,i0,i1,j1,i2,j2⟩
theorem zjo (h:DataW.trod enc Tryz.prog w base spare held fuel 106 cs=some x) (hw:Wt Tryz.prog 106 x.1): ∃a,zcl cs a:=by
 obtain⟨n,rfl,hl,hf⟩:=zbR Tryz.underlying106 h hw;rw [zkZ]at hl;obtain⟨a,b,c,d,rfl⟩:=zmt hl;obtain⟨y0,h0,_⟩:=hf 0 _ 9 0 1 rfl rfl rfl cS;obtain⟨y1,h1,_⟩:=hf 1 _ 3 1 1 rfl rfl rfl cI;obtain⟨y2,h2,_⟩:=hf 2 _ 4 2 1 rfl rfl rfl cB;obtain⟨y3,h3,_⟩:=hf 3 _ 3 3 1 rfl rfl rfl cI;obtain⟨s0,e0,i0⟩:=zdl Tryz.underlying9 h0;obtain⟨n1,e1,i1⟩:=zbh Tryz.underlying3 h1;obtain⟨b2,e2⟩:=ze0 Tryz.underlying4 h2;obtain⟨n3,e3,i3⟩:=zbh Tryz.underlying3 h3;obtain rfl:=zG e0;obtain rfl:=zG e1;obtain rfl:=zG e2;obtain rfl:=zG e3;exact⟨⟨s0,n1,b2,n3⟩,rfl,i0,i1,i3⟩
theorem zkh (h:DataW.trod enc Tryz.prog w base spare held fuel 70 cs=some x) (hw:Wt Tryz.prog 70 x.1): ∃a,zbB cs a:=by
 obtain⟨n,rfl,hl,hf⟩:=zbR Tryz.underlying70 h hw;rw [zlB]at hl;obtain⟨a,b,c,rfl⟩:=zmk hl;obtain⟨y0,h0,_⟩:=hf 0 _ 3 0 1 rfl rfl rfl cI;obtain⟨y1,h1,_⟩:=hf 1 _ 3 1 1 rfl rfl rfl cI;obtain⟨y2,h2,_⟩:=hf 2 _ 3 2 1 rfl rfl rfl cI;obtain⟨n0,e0,i0⟩:=zbh Tryz.underlying3 h0;obtain⟨n1,e1,i1⟩:=zbh Tryz.underlying3 h1;obtain⟨n2,e2,i2⟩:=zbh Tryz.underlying3 h2;obtain rfl:=zG e0;obtain rfl:=zG e1;obtain rfl:=zG e2;exact⟨⟨n0,n1,n2⟩,rfl,i0,i1,i2⟩
end
section
variable {H:Type} {enc:TypeId × Value->H} {w:World} {base:Nat} {spare:Nat->Bool} {held:Bool}
theorem zli: ∀(fuel:Nat) {cs:List Value} {x:DataW H × List MemPlace},DataW.trod enc Tryz.prog w base spare held fuel 116 cs=some x->Wt Tryz.prog 116 x.1-> ∃t,TmA w cs t:=by
 intro fuel
 induction fuel using Nat.strongRecOn with
 |_ fuel ih=>
  intro cs x h hw;obtain⟨n,rfl,hl,hf⟩:=zbR Tryz.underlying116 h hw;rw [zib]at hl;obtain⟨a,b,c,d,e,f,g,i,j,rfl⟩:=zmu hl;obtain⟨y0,h0,_⟩:=hf 0 _ 3 0 1 rfl rfl rfl cI;obtain⟨y1,h1,_⟩:=hf 1 _ 2 1 1 rfl rfl rfl zkf;obtain⟨y2,h2,_⟩:=hf 2 _ 2 2 1 rfl rfl rfl zkf;obtain⟨y3,h3,_⟩:=hf 3 _ 9 3 1 rfl rfl rfl cS;obtain⟨y4,h4,_⟩:=hf 4 _ 9 4 1 rfl rfl rfl cS;obtain⟨y5,h5,_⟩:=hf 5 _ 3 5 1 rfl rfl rfl cI;obtain⟨y6,h6,w6⟩:=hf 6 _ 22 6 1 rfl rfl rfl zjF;obtain⟨y7,h7,_⟩:=hf 7 _ 9 7 1 rfl rfl rfl cS;obtain⟨y8,h8,_⟩:=hf 8 _ 3 8 1 rfl rfl rfl cI;obtain⟨n0,e0,i0⟩:=zbh Tryz.underlying3 h0;obtain⟨n1,e1,i1⟩:=zbh Tryz.underlying2 h1;obtain⟨n2,e2,i2⟩:=zbh Tryz.underlying2 h2;obtain⟨s3,e3,i3⟩:=zdl Tryz.underlying9 h3;obtain⟨s4,e4,i4⟩:=zdl Tryz.underlying9 h4;obtain⟨n5,e5,i5⟩:=zbh Tryz.underlying3 h5;obtain⟨ao,ac,l6,e6,s6,b6⟩:=zcd (TmA w) Tryz.underlying22 zib (by decide) h6 w6 (fun m cs' y hm _ hy wy=>ih m (by omega) hy wy);obtain⟨s7,e7,i7⟩:=zdl Tryz.underlying9 h7;obtain⟨n8,e8,i8⟩:=zbh Tryz.underlying3 h8;obtain rfl:=zG e0;obtain rfl:=zG e1;obtain rfl:=zG e2;obtain rfl:=zG e3;obtain rfl:=zG e4;obtain rfl:=zG e5;obtain rfl:=zG e6;obtain rfl:=zG e7;obtain rfl:=zG e8;obtain⟨q,hq⟩:=zdX s6;exact⟨.mk n0 n1 n2 s3 s4 n5 l6 s7 n8,q+1,⟨ao,ac,rfl,hq⟩,i0,i1,i2,i3,i4,i5,b6,i7,i8⟩
end
end Go.Proofs.YtepjanajflkakaaGreatDoor
