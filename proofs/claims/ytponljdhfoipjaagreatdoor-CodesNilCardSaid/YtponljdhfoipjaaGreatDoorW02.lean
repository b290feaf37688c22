import Derived.Test.YtponljdhfoipjaaGreatDoorW01
namespace Go.Proofs.YtponljdhfoipjaaGreatDoor
open Go.RowKit
set_option linter.unusedVariables false
set_option linter.unusedSimpArgs false
set_option maxRecDepth 100000
set_option maxHeartbeats 0
section
variable {P:Program} {ops:Array Oper} {Q:Exit->Act->World->Prop} {md:Region.Mode} {S1 S2:World->Prop} {p:Nat}
def wpAnyP (P:Program) (md:Region.Mode) (ops:Array Oper) (Q:Exit->Act->World->Prop) (p:Nat) (S1 S2:World->Prop):Nat->Array Bool->Act->World->Prop
 |0,listed,a,w=>Region.ready md ops listed= []/\Q .normal a w
 |fuel+1,listed,a,w=>(Region.ready md ops listed= []->Q .normal a w) /\
  ∀i∈Region.ready md ops listed,wpOp P ops Q i (fun a' w'=>(S1 w'/\((listed.setIfInBounds i true).getD p false=false->S2 w'))/\wpAnyP P md ops Q p S1 S2 fuel (listed.setIfInBounds i true) a' w') a w
theorem wpAny_of_P: ∀(fuel:Nat) (listed:Array Bool) (a:Act) (w:World),wpAnyP P md ops Q p S1 S2 fuel listed a w->wpAny P md ops Q fuel listed a w
 |0,_,_,_,h=>h
 |fuel+1,_,_,_,h=>⟨h.1,fun i hi=>wpOp_mono (fun a' w' h'=>wpAny_of_P fuel _ a' w' h'.2) (h.2 i hi)⟩
def ClosedL (md:Region.Mode) (ops:Array Oper) (listed:Array Bool):Prop:= ∀j o,listed.getD j false=true->ops[j]?=some o-> ∀e∈o.after,Region.binds md e=true->listed.getD e.on false=true
def closedB (md:Region.Mode) (ops:Array Oper) (listed:Array Bool):Bool:=(List.range ops.size).all fun j=>!listed.getD j false||(match ops[j]? with
 |some o=>o.after.all fun e=>!Region.binds md e||listed.getD e.on false
 |none=>true)
theorem closedB_spec {listed:Array Bool} (h:closedB md ops listed=true):ClosedL md ops listed:=fun j o hj ho e he hb=>by
 have h1:=List.all_eq_true.1 h j (List.mem_range.2 (Array.getElem?_eq_some_iff.1 ho).1)
 rw [hj,ho]at h1
 have h2:=Array.all_eq_true_iff_forall_mem.1 (show o.after.all (fun e=>!Region.binds md e||listed.getD e.on false)=true from by simpa using h1) e he
 rw [hb]at h2
 simpa using h2
theorem ClosedL.set {listed:Array Bool} {j:Nat} (h:ClosedL md ops listed) (hj:j∈Region.ready md ops listed):ClosedL md ops (listed.setIfInBounds j true):=fun k o hk ho e he hb=>by
 by_cases c:j=k
 ·subst c
  obtain⟨-,o',ho',hall⟩:=mem_ready.1 hj
  rw [ho]at ho'
  injection ho' with ho'
  subst ho'
  exact getD_set_true (hall e he hb)
 ·rw [getD_set_ne false c]at hk
  exact getD_set_true (h k o hk ho e he hb)
def waitsB (md:Region.Mode) (ops:Array Oper) (j i:Nat):Bool:=match ops[j]? with
 |some o=>o.after.any fun e=>Region.binds md e&&e.on==i
 |none=>false
def needsB (md:Region.Mode) (ops:Array Oper):List Nat->Nat->Nat->Bool
 |[],j,i=>waitsB md ops j i
 |k::r,j,i=>waitsB md ops j k&&needsB md ops r k i
theorem waits_listed {listed:Array Bool} {i j:Nat} (h:waitsB md ops j i=true) (hall: ∀o,ops[j]?=some o-> ∀e∈o.after,Region.binds md e=true->listed.getD e.on false=true):listed.getD i false=true:=by
 unfold waitsB at h
 cases ho:ops[j]? with
 |none=>rw [ho]at h;cases h
 |some o=>
  rw [ho]at h
  obtain⟨e,he,hb⟩:=Array.any_eq_true'.1 (show o.after.any (fun e=>Region.binds md e&&e.on==i)=true from h)
  rw [Bool.and_eq_true,beq_iff_eq]at hb
  rw [<-hb.2]
  exact hall o ho e he hb.1
theorem needs_listed {listed:Array Bool} (hc:ClosedL md ops listed) {i:Nat}: ∀(r:List Nat) (j:Nat),needsB md ops r j i=true->(∀o,ops[j]?=some o-> ∀e∈o.after,Region.binds md e=true->listed.getD e.on false=true)->listed.getD i false=true
 |[],j,h,hall=>waits_listed h hall
 |k::r,j,h,hall=>by
  unfold needsB at h
  rw [Bool.and_eq_true]at h
  have hk:=waits_listed h.1 hall
  exact needs_listed hc r k h.2 fun o ho e he hb=>hc k o hk ho e he hb
theorem wpAnyP_first {i:Nat} {oi:Oper} {v:Value} {SA:World->Prop} (hi:ops[i]?=some oi) (hsel: ∀(j:Nat) (o:Oper) cs b,ops[j]?=some o->o.op≠ .select cs b)
  (hQ: ∀c a w,Q (.panic c) (a.put oi.dst v) w->Q (.panic c) a w) (hip:i≠p) (h0: ∀w,S1 w->S2 w->SA w)
  (h1:(∀w,S1 w->SA w)\/ ∃f,needsB md ops f p i=true):
  ∀(fuel:Nat) (listed:Array Bool) (a:Act) (w:World),ClosedL md ops listed ->
   (∀j oj,ops[j]?=some oj->j≠i->listed.getD j true=false->(∀e∈oj.after,Region.binds md e=true->e.on≠i)->oi.apart ops oj=true) ->
   i∈Region.ready md ops listed->(listed.getD p false=true-> ∀w,S1 w->SA w)->YieldsIf P ops SA oi v a->S1 w->(listed.getD p false=false->S2 w) ->
   wpAnyP P md ops Q p S1 S2 fuel (listed.setIfInBounds i true) (a.put oi.dst v) w->wpAnyP P md ops Q p S1 S2 (fuel+1) listed a w:=by
 intro fuel
 have key: ∀(listed:Array Bool) (w:World),(listed.getD p false=true-> ∀w,S1 w->SA w)->S1 w->(listed.getD p false=false->S2 w)->SA w:=fun listed w hp hs1 hs2=>by
  cases hb:listed.getD p false with
  |true=>exact hp hb w hs1
  |false=>exact h0 w hs1 (hs2 hb)
 have hbit: ∀listed:Array Bool,(listed.setIfInBounds i true).getD p false=listed.getD p false:=fun listed=>getD_set_ne false hip
 induction fuel with
 |zero=>
  intro listed a w _ _ hr hp hy hs1 hs2 H
  refine⟨fun h=>(by rw [h]at hr;cases hr),fun j hj=>?_⟩
  by_cases hji:j=i
  ·subst hji;exact hy.wpOp hi (key listed w hp hs1 hs2) ⟨⟨hs1,by rw [hbit];exact hs2⟩,H⟩
  ·have:=ready_mono hj hji
   rw [H.1]at this
   cases this
 |succ fuel ih=>
  intro listed a w hcl hfree hr hp hy hs1 hs2 H
  refine⟨fun h=>(by rw [h]at hr;cases hr),fun j hj=>?_⟩
  by_cases hji:j=i
  ·subst hji;exact hy.wpOp hi (key listed w hp hs1 hs2) ⟨⟨hs1,by rw [hbit];exact hs2⟩,H⟩
  ·have h2:=H.2 j (ready_mono hj hji)
   obtain⟨hjun,oj,hoj,hall⟩:=mem_ready.1 hj
   have hnot: ∀e∈oj.after,Region.binds md e=true->e.on≠i:=fun e he hb heq=>by
    have h3:=hall e he hb
    have h4:=(mem_ready.1 hr).1
    rw [heq]at h3
    rcases Nat.lt_or_ge i listed.size with h'|h'
    ·simp [h']at h3 h4;rw [h4]at h3;cases h3
    ·simp [Array.getElem?_eq_none h']at h3
   have h3:=wpOp_putIf hoj (hfree j oj hoj hji hjun hnot) (fun cs b=>hsel i oi cs b hi) (fun cs b=>hsel j oj cs b hoj) hQ hy h2
   have hfree': ∀k ok,ops[k]?=some ok->k≠i->(listed.setIfInBounds j true).getD k true=false->(∀e∈ok.after,Region.binds md e=true->e.on≠i)->oi.apart ops ok=true:=fun k ok hk hki hun hno=>by
    refine hfree k ok hk hki ?_ hno
    by_cases hjk:j=k
    ·subst hjk;exact hjun
    ·rw [getD_set_ne true hjk]at hun;exact hun
   have hp':(listed.setIfInBounds j true).getD p false=true-> ∀w,S1 w->SA w:=fun hb=>by
    by_cases hjp:j=p
    ·rcases h1 with h1|⟨f,hf⟩
     ·exact h1
     ·subst hjp
      have h3:=needs_listed hcl f j hf fun o ho e he hb=>by
       rw [hoj]at ho
       injection ho with ho
       subst ho
       exact hall e he hb
      have h4:=(mem_ready.1 hr).1
      rcases Nat.lt_or_ge i listed.size with h'|h'
      ·simp [h']at h3 h4;rw [h4]at h3;cases h3
      ·simp [Array.getElem?_eq_none h']at h3
    ·rw [getD_set_ne false hjp]at hb;exact hp hb
   have hsw:((listed.setIfInBounds i true).setIfInBounds j true).getD p false=(listed.setIfInBounds j true).getD p false:=by
    rw [Array.setIfInBounds_comm _ _ (Ne.symm hji)];exact hbit _
   refine wpOp_mono (fun a' w' h4=>?_) h3
   obtain⟨hy',⟨hs1',hs2'⟩,hrest⟩:=h4
   rw [hsw]at hs2'
   refine⟨⟨hs1',hs2'⟩,ih (listed.setIfInBounds j true) a' w' (hcl.set hj) hfree' (ready_mono hr (Ne.symm hji)) hp' hy' hs1' hs2' ?_⟩
   rw [Array.setIfInBounds_comm _ _ hji]
   exact hrest
theorem wpAnyP_early (r:List Nat) {i:Nat} {oi:Oper} {v:Value} {fuel:Nat} {listed:Array Bool} {a:Act} {w:World} (hi:ops[i]?=some oi)
  (hs : Region.noSelect ops = true) (hf : Region.free md ops listed i = true) (hr : (Region.ready md ops listed).contains i = true) (hp : (i != p && (!listed.getD p false && (closedB md ops listed && needsB md ops r p i))) = true)
  (hQ: ∀c a w,Q (.panic c) (a.put oi.dst v) w->Q (.panic c) a w) (hy:YieldsIf P ops (fun w=>S1 w/\S2 w) oi v a) (hS:S1 w/\S2 w)
  (h:wpAnyP P md ops Q p S1 S2 fuel (listed.setIfInBounds i true) (a.put oi.dst v) w):wpAnyP P md ops Q p S1 S2 (fuel+1) listed a w:=by
 rw [Bool.and_eq_true,Bool.and_eq_true,Bool.and_eq_true]at hp
 obtain⟨h1,h2,h3,h4⟩:=hp
 have hl:listed.getD p false=false:=by simpa using h2
 exact wpAnyP_first (SA:=fun w=>S1 w/\S2 w) hi (Region.noSelect_spec hs) hQ (by simpa using h1) (fun w a b=>⟨a,b⟩) (.inr ⟨_,h4⟩) fuel listed a w (closedB_spec h3) (Region.free_spec hi hf) (by simpa using hr) (fun h=>by rw [hl]at h;cases h) hy hS.1 (fun _=>hS.2) h
theorem wpAnyP_late {i:Nat} {oi:Oper} {v:Value} {fuel:Nat} {listed:Array Bool} {a:Act} {w:World} (hi:ops[i]?=some oi)
  (hs : Region.noSelect ops = true) (hf : Region.free md ops listed i = true) (hr : (Region.ready md ops listed).contains i = true) (hp : (i != p && (!listed.getD p false && closedB md ops listed)) = true)
  (hQ: ∀c a w,Q (.panic c) (a.put oi.dst v) w->Q (.panic c) a w) (hy:YieldsIf P ops S1 oi v a) (hS:S1 w/\S2 w)
  (h:wpAnyP P md ops Q p S1 S2 fuel (listed.setIfInBounds i true) (a.put oi.dst v) w):wpAnyP P md ops Q p S1 S2 (fuel+1) listed a w:=by
 rw [Bool.and_eq_true,Bool.and_eq_true]at hp
 have hl:listed.getD p false=false:=by simpa using hp.2.1
 exact wpAnyP_first (SA:=S1) hi (Region.noSelect_spec hs) hQ (by simpa using hp.1) (fun w a _=>a) (.inl fun _ h=>h) fuel listed a w (closedB_spec hp.2.2) (Region.free_spec hi hf) (by simpa using hr) (fun h=>by rw [hl]at h;cases h) hy hS.1 (fun _=>hS.2) h
theorem wpAnyP_one {i:Nat} {o:Oper} {fuel:Nat} {listed:Array Bool} {a:Act} {w:World} (hr:Region.ready md ops listed= [i]) (ho:ops[i]?=some o)
  (h: ∀K:Act->World->Prop,Hid (∀a' w',(S1 w'/\S2 w')->wpAnyP P md ops Q p S1 S2 fuel (listed.setIfInBounds i true) a' w'->K a' w')->(if Region.wanted o (yielded ops a.tmps)=true then Oper.wp P o a w K Q else K (a.put o.dst undef) w)):
  wpAnyP P md ops Q p S1 S2 (fuel+1) listed a w:=by
 refine⟨fun h0=>(by rw [hr]at h0;cases h0),fun j hj=>?_⟩
 rw [hr,List.mem_singleton]at hj
 subst hj
 have h1:=h (fun a' w'=>(S1 w'/\((listed.setIfInBounds j true).getD p false=false->S2 w'))/\wpAnyP P md ops Q p S1 S2 fuel (listed.setIfInBounds j true) a' w') (Lib.hid fun a' w' h1 h2=>⟨⟨h1.1,fun _=>h1.2⟩,h2⟩)
 unfold wpOp
 rw [ho]
 show if Region.wanted o (yielded ops a.tmps)=true then _ else _
 split
 ·rename_i hw;rw [if_pos hw]at h1;exact .inl h1
 ·rename_i hw;rw [if_neg hw]at h1;exact h1
theorem wpAnyP_end {i:Nat} {o:Oper} {fuel:Nat} {listed:Array Bool} {a:Act} {w:World} (hr:Region.ready md ops listed= [i]) (ho:ops[i]?=some o) (hp:(listed.setIfInBounds i true).getD p false=true)
  (h: ∀K:Act->World->Prop,Hid (∀a' w',S1 w'->wpAnyP P md ops Q p S1 S2 fuel (listed.setIfInBounds i true) a' w'->K a' w')->(if Region.wanted o (yielded ops a.tmps)=true then Oper.wp P o a w K Q else K (a.put o.dst undef) w)):
  wpAnyP P md ops Q p S1 S2 (fuel+1) listed a w:=by
 refine⟨fun h0=>(by rw [hr]at h0;cases h0),fun j hj=>?_⟩
 rw [hr,List.mem_singleton]at hj
 subst hj
 have h1:=h (fun a' w'=>(S1 w'/\((listed.setIfInBounds j true).getD p false=false->S2 w'))/\wpAnyP P md ops Q p S1 S2 fuel (listed.setIfInBounds j true) a' w') (Lib.hid fun a' w' h1 h2=>⟨⟨h1,fun h3=>(by rw [hp]at h3;cases h3)⟩,h2⟩)
 unfold wpOp
 rw [ho]
 show if Region.wanted o (yielded ops a.tmps)=true then _ else _
 split
 ·rename_i hw;rw [if_pos hw]at h1;exact .inl h1
 ·rename_i hw;rw [if_neg hw]at h1;exact h1
theorem wpAnyP_earlyA (r:List Nat) (i:Nat) {oi:Oper} {v:Value} {fuel:Nat} {listed:Array Bool} {a:Act} {w:World} (hS:S1 w/\S2 w)
  (h:wpAnyP P md ops Q p S1 S2 fuel (listed.setIfInBounds i true) (a.put oi.dst v) w) (hi:ops[i]?=some oi:=by exact rfl)
  (hs : Region.noSelect ops = true := by kernel_rfl) (hf : Region.free md ops listed i = true := by kernel_rfl) (hr : (Region.ready md ops listed).contains i = true := by kernel_rfl) (hp : (i != p && (!listed.getD p false && (closedB md ops listed && needsB md ops r p i))) = true := by kernel_rfl)
  (hQ: ∀c a w,Q (.panic c) (a.put oi.dst v) w->Q (.panic c) a w:=by exact fun _ _ _ h=>h)
  (hy:YieldsIf P ops (fun w=>S1 w/\S2 w) oi v a:=by(refine Or.inl ⟨by rfl,?_⟩;intro w hSw;(try dsimp only at hSw);go_simp;try with_reducible rfl)):wpAnyP P md ops Q p S1 S2 (fuel+1) listed a w:=
 wpAnyP_early r hi hs hf hr hp hQ hy hS h
theorem wpAnyP_lateA (i:Nat) {oi:Oper} {v:Value} {fuel:Nat} {listed:Array Bool} {a:Act} {w:World} (hS:S1 w/\S2 w)
  (h:wpAnyP P md ops Q p S1 S2 fuel (listed.setIfInBounds i true) (a.put oi.dst v) w) (hi:ops[i]?=some oi:=by exact rfl)
  (hs : Region.noSelect ops = true := by kernel_rfl) (hf : Region.free md ops listed i = true := by kernel_rfl) (hr : (Region.ready md ops listed).contains i = true := by kernel_rfl) (hp : (i != p && (!listed.getD p false && closedB md ops listed)) = true := by kernel_rfl)
  (hQ: ∀c a w,Q (.panic c) (a.put oi.dst v) w->Q (.panic c) a w:=by exact fun _ _ _ h=>h)
  (hy:YieldsIf P ops S1 oi v a:=by(refine Or.inl ⟨by rfl,?_⟩;intro w hSw;(try dsimp only at hSw);go_simp;try with_reducible rfl)):wpAnyP P md ops Q p S1 S2 (fuel+1) listed a w:=
 wpAnyP_late hi hs hf hr hp hQ hy hS h
theorem wpAnyP_oneA (i:Nat) {o:Oper} {fuel:Nat} {listed:Array Bool} {a:Act} {w:World}
  (h: ∀K:Act->World->Prop,Hid (∀a' w',(S1 w'/\S2 w')->wpAnyP P md ops Q p S1 S2 fuel (listed.setIfInBounds i true) a' w'->K a' w')->(if Region.wanted o (yielded ops a.tmps)=true then Oper.wp P o a w K Q else K (a.put o.dst undef) w))
  (hr:Region.ready md ops listed= [i]:=by kernel_rfl) (ho:ops[i]?=some o:=by exact rfl):
  wpAnyP P md ops Q p S1 S2 (fuel+1) listed a w:=wpAnyP_one hr ho h
theorem wpAnyP_endA (i:Nat) {o:Oper} {fuel:Nat} {listed:Array Bool} {a:Act} {w:World}
  (h: ∀K:Act->World->Prop,Hid (∀a' w',S1 w'->wpAnyP P md ops Q p S1 S2 fuel (listed.setIfInBounds i true) a' w'->K a' w')->(if Region.wanted o (yielded ops a.tmps)=true then Oper.wp P o a w K Q else K (a.put o.dst undef) w))
  (hr:Region.ready md ops listed= [i]:=by kernel_rfl) (ho:ops[i]?=some o:=by exact rfl) (hp:(listed.setIfInBounds i true).getD p false=true:=by kernel_rfl):
  wpAnyP P md ops Q p S1 S2 (fuel+1) listed a w:=wpAnyP_end hr ho hp h
theorem wpAnyP_done {listed:Array Bool} {a:Act} {w:World} (hr:Region.ready md ops listed= []) (h:Q .normal a w): ∀fuel,wpAnyP P md ops Q p S1 S2 fuel listed a w
 |0=>⟨hr,h⟩
 |_+1=>⟨fun _=>h,by rw [hr];simp⟩
theorem wp_region_P {id:Nat} {a:Act} {w:World} (p:Nat) (S1 S2:World->Prop) (hm:P.follows .mixedOrders=true) (hS:S1 w.drew/\S2 w.drew)
  (h:S1 w.drew/\S2 w.drew->wpAnyP P .any ops Q p S1 S2 ops.size (Array.replicate ops.size false) a w.drew):(Code.region id ops true).wp P Q a w:=
 wp_region_any hm (wpAny_of_P _ _ _ _ (h hS))
end
def IntsAt (w:World) (ao:Option Addr) (l:List Int):Prop:=
 l= []\/ ∃b off cs fr,ao=some ⟨b,off,none⟩/\w.heap[b]?=some (.cells cs 3 fr)/\ ∀j (h:j<l.length),cs[off+j]?=some (.int .i64 l[j])
def KeepT (w w':World):Prop:=w.heap.size<=w'.heap.size/\ ∀(k:Nat) (cs:Array Value) (t:TypeId) (fr:Nat × Nat),w.heap[k]?=some (Obj.cells cs t fr)->t≠183->t≠180->w'.heap[k]?=some (Obj.cells cs t fr)
theorem KeepT.refl (w:World):KeepT w w:=⟨Nat.le_refl _,fun _ _ _ _ h _ _=>h⟩
theorem KeepT.trans {a b c:World} (h:KeepT a b) (k:KeepT b c):KeepT a c:=⟨Nat.le_trans h.1 k.1,fun j cs t fr x y z=>k.2 j cs t fr (h.2 j cs t fr x y z) y z⟩
theorem KeepT.below {w w':World} (h:Below w.heap.size w w'):KeepT w w':=⟨h.size,fun k cs t fr x _ _=>(h.block k (lt_of_row x)).trans x⟩
theorem IntsAt.keep {w w':World} {ao:zzA} {l:List Int} (h:IntsAt w ao l) (k:KeepT w w'):IntsAt w' ao l:=
 h.imp id fun⟨b,off,cs,fr,e,hb,hr⟩=>⟨b,off,cs,fr,e,k.2 b cs _ fr hb (by decide) (by decide),hr⟩
theorem IntsAt.below {w w':World} {ao:zzA} {l:List Int} (h:IntsAt w ao l) (k:Below w.heap.size w w'):IntsAt w' ao l:=h.keep (.below k)
theorem IntsAt.nil (w:World) (ao:zzA):IntsAt w ao []:=.inl rfl
theorem IntsAt.take {w:World} {ao:zzA} {l:List Int} (h:IntsAt w ao l) (n:Nat):IntsAt w ao (l.take n):=
 h.elim (fun e=>.inl (by rw [e,List.take_nil])) fun⟨b,off,cs,fr,e,hb,hr⟩=>.inr ⟨b,off,cs,fr,e,hb,fun j hj=>by
  rw [List.length_take]at hj
  rw [hr j (by omega),List.getElem_take]⟩
theorem IntsAt.cell {w:World} {ao:zzA} {l:List Int} (h:IntsAt w ao l) {k:Nat} (hk:k<l.length):
  ∃b off,ao=some ⟨b,off,none⟩/\b<w.heap.size/\w.cell? ⟨b,off+k,none⟩=some (.int .i64 (l.getD k 0)):=by
 rcases h with h|⟨b,off,cs,fr,e,hb,hr⟩
 ·rw [h]at hk;exact absurd hk (Nat.not_lt_zero _)
 ·refine⟨b,off,e,lt_of_row hb,?_⟩
  rw [cell_of_row _ _ _ _ _ _ hb,hr k hk,List.getD_eq_getElem?_getD,List.getElem?_eq_getElem hk];rfl
theorem infoInt:(Tryz.prog.info? 3).map (fun i=>(i.zero,i.size,i.bytes))=some (some (.int .i64 0),1,8):=by kernel_rfl
theorem mkInts (n:Nat) (hn:n<=1000000): ∃arr:Array Value,arr.size=n/\ ∀wx:World,(Instr.makeSlice 233 (.int .i64 (n:Int)) (.int .i64 (n:Int))).run Tryz.prog wx= .ok (.slice (some ⟨wx.heap.size,0,none⟩) n n) (wx.alloc (.cells arr 3)):=by
 obtain⟨i0,hi,hz0,hz1,hz2⟩:=info_parts infoInt
 refine⟨madeCells (Value.int .i64 0).cells (n*i0.size),by rw [size_madeCells,hz1,Nat.mul_one],fun wx=>?_⟩
 have:=run_make (P:=Tryz.prog) wx 233 3 i0 _ Tryz.underlying233 hi hz0 .i64 .i64 n n (by omega) (Int.le_refl _) (by rw [hz2];omega) (by omega)
 simpa only [Int.toNat_natCast] using this
theorem cellOf {w:World} {B k:Nat} {arr:Array Value} {t:TypeId} {fr:Nat × Nat} (h:w.heap[B]?=some (.cells arr t fr)) (hk:k<arr.size):w.cell? ⟨B,k,none⟩=some arr[k]:=by
 rw [cell_of_row _ _ _ _ _ _ h,Array.getElem?_eq_getElem hk]
theorem anysV_len (n:Nat):(anysV (n:Int)).length=n:=by unfold anysV;simp
theorem ret_sl {ao:zzA} {m n c:Nat} (h:m=n):Ending.returned (.slice ao m c)= .returned (.slice ao n c):=by rw [h]
def HoldsI (arr:Array Value) (k:Nat) (f:Nat->Int):Prop:= ∀j,j<k->arr[j]?=some (.int .i64 (f j))
theorem HoldsI.set {arr:Array Value} {k:Nat} {f:Nat->Int} (h:HoldsI arr k f) (hk:k<arr.size):HoldsI (arr.setIfInBounds k (.int .i64 (f k))) (k+1) f:=by
 intro j hj
 rw [Array.getElem?_setIfInBounds]
 by_cases c:k=j
 ·subst c;rw [if_pos rfl,if_pos hk]
 ·rw [if_neg c];exact h j (by omega)
theorem vanys_any (n:Int) (w:World) (hn:0<=n/\n<=1000000):
  Calls Tryz.prog 124 #[.int .i64 n] w fun e w'=>(∃ao c,e= .returned (.slice ao (anysV n).length c)/\IntsAt w' ao (anysV n)/\(anysV n).length<=c)/\Below w.heap.size w w':=by
 obtain⟨n,rfl⟩:=Int.eq_ofNat_of_zero_le hn.1
 obtain⟨arr,ha,hmk⟩:=mkInts n (by omega)
 have hB0:Below w.heap.size w (w.alloc (.cells arr 3)):=zzE _ _
 have hrow:(w.alloc (.cells arr 3)).heap[w.heap.size]?=some (.cells arr 3 (0,0)):=heap_alloc_new _ _
 have hn2:n<=1000000:=by omega
 clear hn
 go_in
 go_wp2_with fail
 generalize w.alloc (.cells arr 3)=W at *
 have HR:=Lib.hid hrow;have HB:=Lib.hid hB0
 have HA:=Lib.hid ha
 clear hmk hrow hB0 ha
 generalize hD:w.heap.size=B at *
 go_loopw [4,9] (fun _ iv wr=> ∃(k:Nat) (ar:Array Value),k<=n/\iv= .int .i64 k/\Hid (wr.heap[B]?=some (.cells ar 3 (0,0))/\ar.size=n/\HoldsI ar k (fun _=>1))/\Below B w wr) (fun _ iv _=>n-(intOf iv).toNat)
 case atStart=>exact⟨0,arr,Nat.zero_le _,rfl,Lib.hid ⟨HR.out,HA.out,fun j hj=>absurd hj (Nat.not_lt_zero j)⟩,HB.out⟩
 case round=>
  obtain⟨k,ar,hk,rfl,HK,hB⟩:=hrel
  rename World=>wr
  by_cases hlt:k<n
  ·have hc:=cellOf HK.out.1 (k:=k) (by rw [HK.out.2.1];exact hlt)
   have hf:wr.frozen? ⟨B,k,none⟩=false:=frozen_of_row _ _ _ _ _ HK.out.1
   go_wp2_with fail
   go_roundw
   case rel=>
    refine⟨k+1,_,hlt,by go_num,Lib.hid ⟨heap_setCell_same _ _ _ _ _ _ HK.out.1,?_,HK.out.2.2.set (f:=fun _=>1) (by rw [HK.out.2.1];exact hlt)⟩,hB.setCell (p:=⟨B,k,none⟩) (Nat.le_refl _) _⟩
    rw [Array.size_setIfInBounds];exact HK.out.2.1
   case measure=>simp [intOf];omega
  ·obtain rfl:k=n:=by omega
   go_wp2_with fail
   go_ret
   refine⟨⟨_,k,ret_sl (anysV_len k).symm,.inr ⟨B,0,ar,(0,0),rfl,HK.out.1,fun j hj=>?_⟩,Nat.le_of_eq (anysV_len k)⟩,by rw [hD];exact hB⟩
   rw [anysV_len]at hj
   rw [Nat.zero_add,HK.out.2.2 j hj]
   unfold anysV;simp
theorem vtrim_any (l:List Int) (ao:zzA) (c:Nat) (w:World) (h:IntsAt w ao l) (hl:l.length<=maxLen) (hc:l.length<=c):
  Calls Tryz.prog 170 #[.slice ao l.length c] w fun e w'=>e= .returned (.slice ao (trimT l).length c)/\Below w.heap.size w w':=by
 have HH:=Lib.hid h
 unfold maxLen at hl
 have E0:Hid ((trimT l).length=trimN l l.length):=Lib.hid (by unfold trimT;rw [List.length_take];have:=trimN_le l l.length;omega)
 clear h
 generalize hn:l.length=n at *
 have hn':n<=l.length:=by omega
 clear hn
 generalize(trimT l).length=R at *
 go_in
 go_wp2_with fail
 go_loopw [0] (fun v wr=> ∃k:Nat,k<=n/\v= .slice ao k c/\Hid (trimN l n=trimN l k)/\Below w.heap.size w wr) (fun v _=>match v with|.slice _ k _=>k|_=>0)
 case atStart=>exact⟨n,Nat.le_refl _,rfl,Lib.hid rfl,Below.refl _ _⟩
 case round=>
  obtain⟨k,hk,rfl,HK,hB⟩:=hrel
  rename World=>wr
  cases k with
  |zero=>
   have E:Hid (R=0):=Lib.hid (by rw [E0.out,HK.out];rfl)
   go_wp2_with fail
   go_ret
   exact⟨ret_sl E.out.symm,hB⟩
  |succ k=>
   obtain⟨b,off,hao,hlt,q0⟩:=(HH.out.below hB).cell (k:=k) (by omega)
   subst hao
   generalize hv:l.getD k 0=v at *
   have hw1:IntKind.i64.wrap (((k+1:Nat):Int)-1)=(k:Int):=by rw [IntKind.wrap_i64];omega
   by_cases c0:v=0
   ·have HK2:Hid (trimN l n=trimN l k):=Lib.hid (by rw [HK.out,trimN,if_pos (by rw [hv];exact c0)])
    have t0:(v==0)=true:=beq_iff_eq.2 c0
    clear c0 hv HK
    go_wp2_with fail
    exact⟨⟨k,by omega,rfl,HK2,hB⟩,Nat.lt_succ_self k⟩
   ·have E:Hid (R=k+1):=Lib.hid (by rw [E0.out,HK.out,trimN,if_neg (by rw [hv];exact c0)])
    have t0:(v==0)=false:=beq_eq_false_iff_ne.2 c0
    clear c0 hv HK
    go_wp2_with fail
    go_ret
    exact⟨ret_sl E.out.symm,hB⟩
def stRow (s:VSt) (xo:Option Addr) (xc:Nat) (yo:Option Addr) (yc:Nat) (to':Option Addr) (tc:Nat):Array Value:=
 #[.int .i64 s.frame,.slice xo s.x.length xc,.slice yo s.y.length yc,.slice to' s.tries.length tc,.bool s.mt,.int .i64 s.recv,.int .i64 s.frm]
structure StLs (w:World) (s:VSt) (xo:Option Addr) (xc:Nat) (yo:Option Addr) (yc:Nat) (to':Option Addr) (tc:Nat):Prop where
 x:IntsAt w xo s.x
 y:IntsAt w yo s.y
 t:IntsAt w to' s.tries
 xl:s.x.length<=xc
 yl:s.y.length<=yc
 tl:s.tries.length<=tc
def StAt (w:World) (b:Nat) (s:VSt):Prop:= ∃xo xc yo yc to' tc,w.heap[b]?=some (.cells (stRow s xo xc yo yc to' tc) 236 (0,0))/\StLs w s xo xc yo yc to' tc
theorem StLs.keep {w w':World} {s:VSt} {xo yo to':zzA} {xc yc tc:Nat} (h:StLs w s xo xc yo yc to' tc) (k:KeepT w w'):StLs w' s xo xc yo yc to' tc:=
 ⟨h.x.keep k,h.y.keep k,h.t.keep k,h.xl,h.yl,h.tl⟩
theorem StAt.keep {w w':World} {b:Nat} {s:VSt} (h:StAt w b s) (k:KeepT w w'):StAt w' b s:=by
 obtain⟨xo,xc,yo,yc,to',tc,hr,hl⟩:=h
 exact⟨xo,xc,yo,yc,to',tc,k.2 b _ _ _ hr (by decide) (by decide),hl.keep k⟩
theorem StAt.below {w w':World} {b:Nat} {s:VSt} (h:StAt w b s) (k:Below w.heap.size w w'):StAt w' b s:=h.keep (.below k)
theorem StAt.lt {w:World} {b:Nat} {s:VSt} (h:StAt w b s):b<w.heap.size:=by
 obtain⟨_,_,_,_,_,_,hr,_⟩:=h;exact lt_of_row hr
structure VLen (s:VSt):Prop where
 x:s.x.length<=1000
 y:s.y.length<=10000
 t:s.tries.length<=1000000
theorem StAt.cells {w:World} {b:Nat} {s:VSt} (h:StAt w b s): ∃xo xc yo yc to' tc,w.cell? ⟨b,0,none⟩=some (.int .i64 s.frame)/\w.cell? ⟨b,1,none⟩=some (.slice xo s.x.length xc)/\w.cell? ⟨b,2,none⟩=some (.slice yo s.y.length yc) /\
  w.cell? ⟨b,3,none⟩=some (.slice to' s.tries.length tc)/\w.cell? ⟨b,4,none⟩=some (.bool s.mt)/\w.cell? ⟨b,5,none⟩=some (.int .i64 s.recv)/\w.cell? ⟨b,6,none⟩=some (.int .i64 s.frm)/\StLs w s xo xc yo yc to' tc:=by
 obtain⟨xo,xc,yo,yc,to',tc,hr,hl⟩:=h
 refine⟨xo,xc,yo,yc,to',tc,?_,?_,?_,?_,?_,?_,?_,hl⟩<;>rw [cell_of_row _ _ _ _ _ _ hr]<;>rfl
theorem IntsAt.heap {w w':World} {ao:zzA} {l:List Int} (h:IntsAt w ao l) (e:w'.heap=w.heap):IntsAt w' ao l:=by
 unfold IntsAt;rw [e];exact h
theorem vk_of {W w:World} (h:Below W.heap.size W w):W.heap.size<=w.heap.size/\ ∀b o,b<W.heap.size->w.cell? ⟨b,o,none⟩=W.cell? ⟨b,o,none⟩:=⟨h.size,fun b o hb=>h.cell (p:=⟨b,o,none⟩) hb⟩
theorem equal_any (l m:List Int) (ao bo:zzA) (c d:Nat) (w:World) (hl:IntsAt w ao l) (hm:IntsAt w bo m) (b1:l.length<=1000000) (b2:m.length<=1000000):
  Calls Tryz.prog 168 #[.slice ao l.length c,.slice bo m.length d] w fun e w'=>e= .returned (.bool (decide (l=m)))/\ ∃q,w'=w.drewN q:=by
 by_cases hn:l.length=m.length
 ·rcases hl with rfl|⟨b,off,cs,fr,rfl,hb,hr⟩
  ·have hm0:m= []:=List.eq_nil_of_length_eq_zero (by simpa using hn.symm)
   subst hm0
   refine(Tryz.slices_Equal_int_empty ao bo c 0 d w (by omega)).mono ?_
   rintro e w' ⟨rfl,rfl⟩
   exact⟨rfl,0,rfl⟩
  ·rcases hm with rfl|⟨b',off',cs',fr',rfl,hb',hr'⟩
   ·have hm0:l= []:=List.eq_nil_of_length_eq_zero (by simpa using hn)
    subst hm0
    refine(Tryz.slices_Equal_int_empty (some ⟨b,off,none⟩) bo c 0 d w (by omega)).mono ?_
    rintro e w' ⟨rfl,rfl⟩
    exact⟨rfl,0,rfl⟩
   ·have g1: ∀j,j<l.length->w.cell? ⟨b,off+j,none⟩=some (.int .i64 (l.getD j 0)):=fun j hj=>by
     rw [cell_of_row _ _ _ _ _ _ hb,hr j hj,List.getD_eq_getElem?_getD,List.getElem?_eq_getElem hj];rfl
    have g2: ∀j,j<m.length->w.cell? ⟨b',off'+j,none⟩=some (.int .i64 (m.getD j 0)):=fun j hj=>by
     rw [cell_of_row _ _ _ _ _ _ hb',hr' j hj,List.getD_eq_getElem?_getD,List.getElem?_eq_getElem hj];rfl
    refine(Tryz.slices_Equal_int b off l.length c b' off' m.length d l m w (Nat.le_refl _) (Nat.le_refl _) (by omega) (by omega) g1 g2).mono ?_
    rintro e w' ⟨rfl,hq⟩
    refine⟨?_,hq⟩
    rw [List.take_length,List.take_length]
    congr 2
    exact Bool.eq_iff_iff.2 (by simp)
 ·refine(Tryz.slices_Equal_int_lens ao bo l.length c m.length d w hn).mono ?_
  rintro e w' ⟨rfl,rfl⟩
  refine⟨?_,0,rfl⟩
  rw [decide_eq_false (fun h=>hn (by rw [h]))]
theorem ventry_any (n:Int) (w:World) (hn:0<=n/\n<=1000):
  Calls Tryz.prog 89 #[.int .i64 n] w fun e w'=>(∃b,e= .returned (.pointer (some ⟨b,0,none⟩))/\w.heap.size<=b/\StAt w' b (entryV n))/\Below w.heap.size w w':=by
 go_in
 go_wp2_with fail
 refine(vanys_any n w ⟨hn.1,by omega⟩).mono ?_
 rintro e w1 ⟨⟨ao,c,rfl,hi,hc⟩,hb⟩
 refine zzK3 hi hb hc fun HI HB HC=>?_
 clear hi hb hc
 go_wp2_with fail
 go_ret
 have hA:Below w1.heap.size w1 (w1.alloc (.cells #[.int .i64 (-1),.slice ao (anysV n).length c,.slice none 0 0,.slice none 0 0,.bool false,.int .i64 0,.int .i64 0] 236)):=zzE _ _
 exact⟨⟨w1.heap.size,rfl,HB.out.size,ao,c,none,0,none,0,heap_alloc_new _ _,HI.out.below hA,.nil _ _,.nil _ _,HC.out,Nat.le_refl _,Nat.le_refl _⟩,HB.out.trans (hA.mono HB.out.size)⟩
theorem vregister_any (b:Nat) (s:VSt) (n:Int) (w:World) (h:StAt w b s) (hn:0<=n/\n<=1000000) (hl:s.x.length<=1000000):
  Calls Tryz.prog 173 #[.pointer (some ⟨b,0,none⟩),.int .i64 n] w fun e w'=>e= .returned (.int .i64 (typT s.x n))/\w'=w:=by
 obtain⟨n,rfl⟩:=Int.eq_ofNat_of_zero_le hn.1
 obtain⟨xo,xc,yo,yc,to',tc,c0,c1,c2,c3,c4,c5,c6,hL⟩:=h.cells
 have hx:=hL.x
 have E:Hid (typT s.x (n:Int)=s.x.getD n 0):=Lib.hid rfl
 clear c0 c2 c3 c4 c5 c6 hL h
 generalize hxs:s.x=xs at *
 clear hxs
 by_cases hlt:n<xs.length
 ·obtain⟨bx,off,rfl,hb,q0⟩:=hx.cell hlt
  generalize xs.getD n 0=v at *
  clear hx
  go_in
  go_wp2_with fail
  go_ret
  exact⟨ret_i E.out.symm,rfl⟩
 ·have E2:Hid (typT xs (n:Int)=0):=Lib.hid (by rw [E.out];exact getD_le _ (by omega))
  clear hx E
  go_in
  go_wp2_with fail
  go_ret
  exact⟨ret_i E2.out.symm,rfl⟩
theorem quiet_of2 {P:Program} {f:FuncId} {args:Array Value} {w:World} {q n:Nat} {v:Value}
  (h:Calls P f args (w.drewN (q+n)) fun e w'=>e= .returned v/\ ∃m,w'=(w.drewN (q+n)).drewN m):Calls P f args (w.drewN (q+n)) fun e w''=>e= .returned v/\ ∃m,w''=w.drewN (q+m):=
 h.mono fun _ _ ⟨he,m,hm⟩=>⟨he,n+m,by rw [hm,World.drewN_drewN,Nat.add_assoc]⟩
theorem stEq {a b : Int} (h : a = b) : (a != b) = false := by rw [h]; simp
theorem stNe {a b : Int} (h : a ≠ b) : (a != b) = true := by simpa using h
theorem vclash_any (p q:Nat) (s t:VSt) (w:World) (hs:StAt w p s) (ht:StAt w q t) (ls:VLen s) (lt:VLen t):
  Calls Tryz.prog 122 #[.pointer (some ⟨p,0,none⟩),.pointer (some ⟨q,0,none⟩)] w fun e w'=>e= .returned (.int .i64 (clashV s t))/\ ∃n,w'=w.drewN n:=by
 have HP:=Lib.hid hs;have HQ:=Lib.hid ht
 obtain⟨xo,xc,yo,yc,to',tc,c0,c1,c2,c3,c4,c5,c6,hL⟩:=hs.cells
 obtain⟨xo',xc',yo',yc',to2,tc',d0,d1,d2,d3,d4,d5,d6,hL'⟩:=ht.cells
 have hT:=hL.t;have hT':=hL'.t
 have l1:=ls.t;have l2:=lt.t
 have HT:=Lib.hid hT;have HT':=Lib.hid hT'
 clear c1 c2 c4 d1 d2 d4 hL hL' hs ht ls lt hT hT'
 have E:Hid (clashV s t=if s.frame≠t.frame then 181 else if s.tries≠t.tries then 182 else if s.recv≠t.recv\/s.frm≠t.frm then 184 else 0):=Lib.hid rfl
 generalize clashV s t=R at *
 generalize s.frame=f1 at *;generalize t.frame=f2 at *
 generalize s.tries=t1 at *;generalize t.tries=t2 at *
 generalize s.recv=r1 at *;generalize t.recv=r2 at *
 generalize s.frm=g1 at *;generalize t.frm=g2 at *
 by_cases h1:f1=f2
 ·have b1:=stEq h1
  by_cases h2:t1=t2
  ·have b2:decide (t1=t2)=true:=decide_eq_true h2
   have hE: ∀wx:World,wx.heap=w.heap->Calls Tryz.prog 168 #[.slice to' t1.length tc,.slice to2 t2.length tc'] wx fun e w'=>e= .returned (.bool true)/\ ∃q,w'=wx.drewN q:=fun wx hx=>by
    have h:=equal_any t1 t2 to' to2 tc tc' wx (HT.out.heap hx) (HT'.out.heap hx) l1 l2
    rwa [b2]at h
   have HE:=Lib.hid hE
   clear hE b2
   by_cases h3:r1=r2
   ·have b3:=stEq h3
    by_cases h4:g1=g2
    ·have b4:=stEq h4
     have E1:Hid (R=0):=Lib.hid (by rw [E.out,if_neg (by simp [h1]),if_neg (by simp [h2]),if_neg (by simp [h3,h4])])
     clear h1 h2 h3 h4 E
     go_in
     go_wp2_with fail
     go_quiet (fail)
     go_wp2_with fail
     go_quiet ((refine quiet_of2 (HE.out _ ?_);rfl))
     go_wp2_with fail
     go_quiet (fail)
     go_wp2_with fail
     go_ret
     exact⟨ret_i E1.out.symm,by first|exact⟨_,rfl⟩|(simp only [World.drewN_drewN];exact⟨_,rfl⟩)⟩
    ·have b4:=stNe h4
     have E1:Hid (R=184):=Lib.hid (by rw [E.out,if_neg (by simp [h1]),if_neg (by simp [h2]),if_pos (by simp [h3,h4])])
     clear h1 h2 h3 h4 E
     go_in
     go_wp2_with fail
     go_quiet (fail)
     go_wp2_with fail
     go_quiet ((refine quiet_of2 (HE.out _ ?_);rfl))
     go_wp2_with fail
     go_quiet (fail)
     go_wp2_with fail
     go_ret
     exact⟨ret_i E1.out.symm,by first|exact⟨_,rfl⟩|(simp only [World.drewN_drewN];exact⟨_,rfl⟩)⟩
   ·have b3:=stNe h3
    have E1:Hid (R=184):=Lib.hid (by rw [E.out,if_neg (by simp [h1]),if_neg (by simp [h2]),if_pos (by simp [h3])])
    clear h1 h2 h3 E
    go_in
    go_wp2_with fail
    go_quiet (fail)
    go_wp2_with fail
    go_quiet ((refine quiet_of2 (HE.out _ ?_);rfl))
    go_wp2_with fail
    go_quiet (fail)
    go_wp2_with fail
    go_ret
    exact⟨ret_i E1.out.symm,by first|exact⟨_,rfl⟩|(simp only [World.drewN_drewN];exact⟨_,rfl⟩)⟩
  ·have b2:decide (t1=t2)=false:=decide_eq_false h2
   have hE: ∀wx:World,wx.heap=w.heap->Calls Tryz.prog 168 #[.slice to' t1.length tc,.slice to2 t2.length tc'] wx fun e w'=>e= .returned (.bool false)/\ ∃q,w'=wx.drewN q:=fun wx hx=>by
    have h:=equal_any t1 t2 to' to2 tc tc' wx (HT.out.heap hx) (HT'.out.heap hx) l1 l2
    rwa [b2]at h
   have HE:=Lib.hid hE
   have E1:Hid (R=182):=Lib.hid (by rw [E.out,if_neg (by simp [h1]),if_pos h2])
   clear hE b2 h1 h2 E
   go_in
   go_wp2_with fail
   go_quiet (fail)
   go_wp2_with fail
   go_quiet ((refine quiet_of2 (HE.out _ ?_);rfl))
   go_wp2_with fail
   go_ret
   exact⟨ret_i E1.out.symm,by first|exact⟨_,rfl⟩|(simp only [World.drewN_drewN];exact⟨_,rfl⟩)⟩
 ·have b1:=stNe h1
  have E1:Hid (R=181):=Lib.hid (by rw [E.out,if_pos h1])
  clear h1 E
  go_in
  go_wp2_with fail
  go_quiet (fail)
  go_wp2_with fail
  go_ret
  exact⟨ret_i E1.out.symm,by first|exact⟨_,rfl⟩|(simp only [World.drewN_drewN];exact⟨_,rfl⟩)⟩
theorem cell_far {w:World} {X k b o:Nat} {v:Value} (h:b≠X):(w.setCell ⟨X,k,none⟩ v).drew.cell? ⟨b,o,none⟩=w.cell? ⟨b,o,none⟩:=by
 show(w.setCell ⟨X,k,none⟩ v).cell? ⟨b,o,none⟩=_
 unfold World.cell?
 rw [heap_setCell_other _ _ _ _ h]
theorem IntsAt.setFar {w:World} {ao:zzA} {l:List Int} {Y i:Nat} {v:Value} {cs:Array Value} {T:TypeId} {fr:Nat × Nat} (h:IntsAt w ao l) (hY:w.heap[Y]?=some (.cells cs T fr)) (hT:T≠3):IntsAt (w.setCell ⟨Y,i,none⟩ v) ao l:=
 h.imp id fun⟨b,off,cs',fr',e,hb,hr⟩=>⟨b,off,cs',fr',e,(heap_setCell_other w ⟨Y,i,none⟩ b v (fun hx=>by
  have hx':b=Y:=hx
  rw [hx',hY]at hb
  exact hT (by injection hb with hb;injection hb))).trans hb,hr⟩
theorem joinL_getElem (l m:List Int) {k:Nat} (h1:k<l.length) (h2:k<m.length) (h:k<(joinL l m).length):(joinL l m)[k]=joinT (l.getD k 0) (m.getD k 0):=by
 have:=joinL_getD' l m k
 rw [List.getD_eq_getElem?_getD,List.getElem?_eq_getElem h]at this
 exact this
theorem vjoined_any (p q:Nat) (s t:VSt) (w:World) (hs:StAt w p s) (ht:StAt w q t) (ls:VLen s) (lt:VLen t) (hy:s.y.length=t.y.length):
  Calls Tryz.prog 123 #[.pointer (some ⟨p,0,none⟩),.pointer (some ⟨q,0,none⟩)] w fun e w'=>(∃b,e= .returned (.pointer (some ⟨b,0,none⟩))/\w.heap.size<=b/\StAt w' b (joinS s t))/\Below w.heap.size w w':=by
 have HP:=Lib.hid hs;have HQ:=Lib.hid ht
 obtain⟨xo,xc,yo,yc,to',tc,c0,c1,c2,c3,c4,c5,c6,hL⟩:=hs.cells
 obtain⟨xo',xc',yo',yc',to2,tc',d0,d1,d2,d3,d4,d5,d6,hL'⟩:=ht.cells
 have HL:=Lib.hid hL;have HL':=Lib.hid hL'
 have l1:=ls.x;have l2:=lt.x;have l3:=ls.y;have l4:=lt.y;have l5:=ls.t
 clear hs ht ls lt hL hL' d0 d3 d5 d6
 refine zzK4 c1 d1 c2 d2 fun HC1 HD1 HC2 HD2=>?_
 have hp:=HP.out.lt;have hq:=HQ.out.lt
 have HE:Hid (joinS s t=⟨s.frame,trimT (joinL s.x t.x),joinL s.y t.y,s.tries,s.mt&&t.mt,s.recv,s.frm⟩):=Lib.hid rfl
 generalize joinS s t=R at *
 have hrow: ∀m:Bool,Below w.heap.size w (w.alloc (.cells #[.int .i64 s.frame,.slice none 0 0,.slice none 0 0,.slice to' s.tries.length tc,.bool m,.int .i64 s.recv,.int .i64 s.frm] 236)).drew:=fun m=>(zzE _ _).drew
 have SK0:=Lib.hid (vk_of (Below.refl w.heap.size w).drew)
 have SK1:=Lib.hid (vk_of (hrow false));have SK2:=Lib.hid (vk_of (hrow true))
 clear hrow
 go_in
 go_upto_region 1 with fail
 go_cut [5] (fun v wx=>v= .pointer (some ⟨w.heap.size,0,none⟩)/\Hid (wx.heap[w.heap.size]?=some (.cells #[.int .i64 s.frame,.slice none 0 0,.slice none 0 0,.slice to' s.tries.length tc,.bool (s.mt&&t.mt),.int .i64 s.recv,.int .i64 s.frm] 236 (0,0))/\Below w.heap.size w wx))
 case first=>
  as_aux_lemma=>
  generalize s.mt=m1 at *;generalize t.mt=m2 at *
  cases m1 with
  |false=>
   clear SK0 SK1 SK2
   go_region
   go_wp2_with fail
   go_meet
   case rel=>exact⟨rfl,Lib.hid ⟨heap_alloc_new _ _,(zzE _ _).drew⟩⟩
  |true=>
   cases m2 with
   |false=>
    first|go_region_held3 (fun w'=>w.heap.size<=w'.heap.size/\ ∀b o,b<w.heap.size->w'.cell? ⟨b,o,none⟩=w.cell? ⟨b,o,none⟩) (first|with_reducible exact SK0.out|with_reducible exact SK1.out) (fail)|fail
    go_wp2_with fail
    go_meet
    case rel=>exact⟨rfl,Lib.hid ⟨heap_alloc_new _ _,(zzE _ _).drew⟩⟩
   |true=>
    first|go_region_held3 (fun w'=>w.heap.size<=w'.heap.size/\ ∀b o,b<w.heap.size->w'.cell? ⟨b,o,none⟩=w.cell? ⟨b,o,none⟩) (first|with_reducible exact SK0.out|with_reducible exact SK2.out) (fail)|fail
    go_wp2_with fail
    go_meet
    case rel=>exact⟨rfl,Lib.hid ⟨heap_alloc_new _ _,(zzE _ _).drew⟩⟩
 case rest=>
  obtain⟨rfl,HW⟩:=hcut
  rename World=>W
  clear SK0 SK1 SK2
  have c1':=(HP.out.below HW.out.2).cells
  have HB:=Lib.hid HW.out.2
  have q1:W.cell? ⟨p,1,none⟩=some (.slice xo s.x.length xc):=(HB.out.cell (p:=⟨p,1,none⟩) hp).trans c1
  have q2:W.cell? ⟨q,1,none⟩=some (.slice xo' t.x.length xc'):=(HB.out.cell (p:=⟨q,1,none⟩) hq).trans d1
  clear c1'
  go_wp2_with fail
  go_region
  obtain⟨n,hn⟩: ∃n:Nat,n=min s.x.length t.x.length:=⟨_,rfl⟩
  have hmin:min (s.x.length:Int) (t.x.length:Int)=(n:Int):=by omega
  rw [hmin]
  have HN:=Lib.hid hn
  have hn1:n<=s.x.length:=by omega
  have hn2:n<=t.x.length:=by omega
  clear hmin hn
  obtain⟨arr,ha,hmk⟩:=mkInts n (by omega)
  have HA:=Lib.hid ha
  have hmkd:=hmk W.drew
  clear hmk ha q1 q2 c1 c2 c3 c4 c5 c6 d1 d2 d4 c0
  go_wp2_with fail
  have hrow:((W.alloc (.cells arr 3)).drew).heap[W.heap.size]?=some (.cells arr 3 (0,0)):=heap_alloc_new W _
  have hB1:Below W.heap.size W (W.alloc (.cells arr 3)).drew:=(zzE _ _).drew
  have hBW:w.heap.size<W.heap.size:=lt_of_row HW.out.1
  have e0:=(hB1.block _ hBW).trans HW.out.1
  have hB2:=HB.out.trans (hB1.mono HB.out.size)
  generalize(W.alloc (.cells arr 3)).drew=W1 at *
  refine zzK4 hrow e0 hB2 hBW fun HR HE0 HB2 HBW=>?_
  clear hrow hB1 e0 hB2 hBW hmkd HW HB
  generalize hX:W.heap.size=X at *
  have HX:=Lib.hid hX
  clear hX
  generalize hY:w.heap.size=Y at *
  have HY:=Lib.hid hY
  clear hY
  go_loopw [8,52] (fun _ iv wr=> ∃(k:Nat) (ar:Array Value),k<=n/\iv= .int .i64 k/\Hid (wr.heap[X]?=some (.cells ar 3 (0,0))/\ar.size=n/\HoldsI ar k (fun j=>joinT (s.x.getD j 0) (t.x.getD j 0)))/\Hid (wr.heap[Y]?=W1.heap[Y]?/\Below Y w wr)) (fun _ iv _=>n-(intOf iv).toNat)
  case atStart=>exact⟨0,arr,Nat.zero_le _,rfl,Lib.hid ⟨HR.out,HA.out,fun j hj=>absurd hj (Nat.not_lt_zero j)⟩,Lib.hid ⟨rfl,HB2.out⟩⟩
  case round=>
   obtain⟨k,ar,hk,rfl,HK,HF⟩:=hrel
   rename World=>wr
   by_cases hlt:k<n
   ·as_aux_lemma=>
    have hc:=cellOf HK.out.1 (k:=k) (by rw [HK.out.2.1];exact hlt)
    have hf:wr.frozen? ⟨X,k,none⟩=false:=frozen_of_row _ _ _ _ _ HK.out.1
    have q1:wr.cell? ⟨p,1,none⟩=some (.slice xo s.x.length xc):=(HF.out.2.cell (p:=⟨p,1,none⟩) hp).trans HC1.out
    have q2:wr.cell? ⟨q,1,none⟩=some (.slice xo' t.x.length xc'):=(HF.out.2.cell (p:=⟨q,1,none⟩) hq).trans HD1.out
    obtain⟨bx,ox,hxo,hbx,z1⟩:=HL.out.x.cell (k:=k) (by omega)
    obtain⟨bx',ox',hxo',hbx',z2⟩:=HL'.out.x.cell (k:=k) (by omega)
    rw [HY.out]at hbx hbx'
    replace z1:=(HF.out.2.cell (p:=⟨bx,ox+k,none⟩) hbx).trans z1
    replace z2:=(HF.out.2.cell (p:=⟨bx',ox'+k,none⟩) hbx').trans z2
    have hYX:=HBW.out
    have hK2:=HK.out.2.2.set (f:=fun j=>joinT (s.x.getD j 0) (t.x.getD j 0)) (k:=k) (by rw [HK.out.2.1];exact hlt)
    have HK2:=Lib.hid hK2
    have hpr:p<wr.heap.size:=Nat.lt_of_lt_of_le hp (by rw [<-HY.out];exact HF.out.2.size)
    have hqr:q<wr.heap.size:=Nat.lt_of_lt_of_le hq (by rw [<-HY.out];exact HF.out.2.size)
    subst hxo hxo'
    clear hK2
    have HZ1:=Lib.hid z1;have HZ2:=Lib.hid z2
    generalize hv1:s.x.getD k 0=v1 at *
    generalize hv2:t.x.getD k 0=v2 at *
    have HV1:=Lib.hid hv1;have HV2:=Lib.hid hv2
    have hI0:(0:Int)<=(k:Int):=by omega
    have hI1:(k:Int)<(s.x.length:Int):=by omega
    have hI2:(k:Int)<(t.x.length:Int):=by omega
    have hI3:(k:Int)<(n:Int):=by omega
    clear hv1 hv2
    go_upto_region 7 with fail
    have KS:Hid (wr.drew.cell? ⟨p,1,none⟩=some (.slice (some ⟨bx,ox,none⟩) s.x.length xc)/\wr.drew.cell? ⟨q,1,none⟩=some (.slice (some ⟨bx',ox',none⟩) t.x.length xc')/\wr.drew.cell? ⟨bx,ox+k,none⟩=some (.int .i64 v1)/\wr.drew.cell? ⟨bx',ox'+k,none⟩=some (.int .i64 v2)):=Lib.hid ⟨q1,q2,z1,z2⟩
    have KT:Hid ((wr.setCell ⟨X,k,none⟩ (.int .i64 (joinT v1 v2))).drew.cell? ⟨p,1,none⟩=some (.slice (some ⟨bx,ox,none⟩) s.x.length xc)/\(wr.setCell ⟨X,k,none⟩ (.int .i64 (joinT v1 v2))).drew.cell? ⟨q,1,none⟩=some (.slice (some ⟨bx',ox',none⟩) t.x.length xc') /\
     (wr.setCell ⟨X,k,none⟩ (.int .i64 (joinT v1 v2))).drew.cell? ⟨bx,ox+k,none⟩=some (.int .i64 v1)/\(wr.setCell ⟨X,k,none⟩ (.int .i64 (joinT v1 v2))).drew.cell? ⟨bx',ox'+k,none⟩=some (.int .i64 v2)):=
     Lib.hid ⟨(cell_far (by omega)).trans q1,(cell_far (by omega)).trans q2,(cell_far (by omega)).trans z1,(cell_far (by omega)).trans z2⟩
    first|go_region_held3 (fun w'=>w'.cell? ⟨p,1,none⟩=some (.slice (some ⟨bx,ox,none⟩) s.x.length xc)/\w'.cell? ⟨q,1,none⟩=some (.slice (some ⟨bx',ox',none⟩) t.x.length xc')/\w'.cell? ⟨bx,ox+k,none⟩=some (.int .i64 v1)/\w'.cell? ⟨bx',ox'+k,none⟩=some (.int .i64 v2)) (first|with_reducible exact KS.out|with_reducible exact KT.out)
     ((go_at_call 169;refine(vjoin_any _ _ _).mono ?_;rintro e w1 ⟨rfl,rfl⟩))|fail
    go_wp2_with fail
    refine⟨⟨k+1,ar.setIfInBounds k (.int .i64 (joinT v1 v2)),hlt,by go_num,Lib.hid ⟨heap_setCell_same _ _ _ _ _ _ HK.out.1,by rw [Array.size_setIfInBounds];exact HK.out.2.1,?_⟩,
     Lib.hid ⟨(heap_setCell_other wr ⟨X,k,none⟩ Y _ (Nat.ne_of_lt HBW.out)).trans HF.out.1,(HF.out.2.setCell (p:=⟨X,k,none⟩) (Nat.le_of_lt HBW.out) _).drew⟩⟩,by simp [intOf];omega⟩
    exact HK2.out
   ·obtain rfl:k=n:=by omega
    have hlen:(joinL s.x t.x).length=k:=by rw [joinL_len];exact HN.out.symm
    have hI:IntsAt wr (some ⟨X,0,none⟩) (joinL s.x t.x):=.inr ⟨X,0,ar,(0,0),rfl,HK.out.1,fun j hj=>by
     rw [Nat.zero_add,HK.out.2.2 j (by omega),joinL_getElem s.x t.x (by omega) (by omega)]⟩
    have htr:=vtrim_any (joinL s.x t.x) (some ⟨X,0,none⟩) k wr hI (by unfold maxLen;omega) (by omega)
    have hI2:=hI.take (trimN (joinL s.x t.x) (joinL s.x t.x).length)
    change IntsAt wr _ (trimT (joinL s.x t.x))at hI2
    have hT2:(trimT (joinL s.x t.x)).length<=k:=by unfold trimT;rw [List.length_take];omega
    rw [hlen]at htr
    refine zzK3 htr hI2 hT2 fun HTR HI2 HT2=>?_
    clear htr hI2 hI hlen hT2
    generalize trimT (joinL s.x t.x)=TX at *
    go_wp2_with fail
    refine HTR.out.mono ?_
    rintro e w1 ⟨rfl,hb1⟩
    have hYr:Y<wr.heap.size:=Nat.lt_of_lt_of_le HBW.out (Nat.le_of_lt (lt_of_row HK.out.1))
    have e1:w1.heap[Y]?=_:=(hb1.block Y hYr).trans (HF.out.1.trans HE0.out)
    have HE1:=Lib.hid e1
    have HI3:=Lib.hid (HI2.out.below hb1)
    have HB3:Hid (Below Y w w1):=Lib.hid (HF.out.2.trans (hb1.mono (by rw [<-HY.out];exact HF.out.2.size)))
    have z1:=cellOf e1 (k:=1) (by simp)
    have z2:=cellOf e1 (k:=2) (by simp)
    have z3:w1.frozen? ⟨Y,1,none⟩=false:=frozen_of_row _ _ _ _ _ e1
    have z4:w1.frozen? ⟨Y,2,none⟩=false:=frozen_of_row _ _ _ _ _ e1
    clear hb1 HTR HI2 HF HK HE0 z2 z4
    have e2:=heap_setCell_same w1 Y 1 _ _ (.slice (some ⟨X,0,none⟩) TX.length k) e1
    clear e1
    go_upto_region 10 with fail
    have hB4:Below Y w (w1.setCell ⟨Y,1,none⟩ (.slice (some ⟨X,0,none⟩) TX.length k)):=HB3.out.setCell (p:=⟨Y,1,none⟩) (Nat.le_refl _) _
    have hI4:=HI3.out.setFar (Y:=Y) (i:=1) (v:=.slice (some ⟨X,0,none⟩) TX.length k) HE1.out (by decide)
    generalize w1.setCell ⟨Y,1,none⟩ (.slice (some ⟨X,0,none⟩) TX.length k)=W2 at *
    have HI4:=Lib.hid hI4;have HB4:=Lib.hid hB4
    obtain⟨m,hm⟩: ∃m:Nat,m=s.y.length:=⟨_,rfl⟩
    have hm2:m=t.y.length:=hm.trans hy
    have hm9:m<=10000:=by omega
    obtain⟨arr2,ha2,hmk2⟩:=mkInts m (by omega)
    have HA2:=Lib.hid ha2
    have hmkd2:=hmk2 W2
    have HM:=Lib.hid hm;have HM2:=Lib.hid hm2
    have q3:W2.cell? ⟨p,2,none⟩=some (.slice yo m yc):=by rw [hm];exact(hB4.cell (p:=⟨p,2,none⟩) hp).trans HC2.out
    have hpY:p≠Y:=Nat.ne_of_lt hp
    have z5:=cellOf e2 (k:=2) (by simp)
    have z6:W2.frozen? ⟨Y,2,none⟩=false:=frozen_of_row _ _ _ _ _ e2
    have hY2:=lt_of_row e2
    have HE2:=Lib.hid e2
    clear hI4 hB4 z1 z3 ha2 hmk2 hm hm2 e2 hYr
    go_upto_region 11 with fail
    have e3:=heap_setCell_same W2 Y 2 _ _ (.slice (some ⟨W2.heap.size,0,none⟩) m m) HE2.out
    have hsz:(W2.setCell ⟨Y,2,none⟩ (.slice (some ⟨W2.heap.size,0,none⟩) m m)).heap.size=W2.heap.size:=by simp [World.setCell]
    have hA:=(Below.refl (W2.setCell ⟨Y,2,none⟩ (.slice (some ⟨W2.heap.size,0,none⟩) m m)).heap.size (W2.setCell ⟨Y,2,none⟩ (.slice (some ⟨W2.heap.size,0,none⟩) m m))).alloc (Nat.le_refl _) (.cells arr2 3)
    have e4:=(hA.block Y (by rw [hsz];exact hY2)).trans e3
    have e5:=heap_alloc_new (W2.setCell ⟨Y,2,none⟩ (.slice (some ⟨W2.heap.size,0,none⟩) m m)) (.cells arr2 3)
    rw [hsz]at e5
    have hS: ∀b cs fr,W2.heap[b]?=some (.cells cs 3 fr)->((W2.setCell ⟨Y,2,none⟩ (.slice (some ⟨W2.heap.size,0,none⟩) m m)).alloc (.cells arr2 3)).heap[b]?=some (.cells cs 3 fr)/\b<W2.heap.size:=fun b cs fr hb=>by
     have hbl:=lt_of_row hb
     refine⟨(hA.block b (by rw [hsz];exact hbl)).trans ((heap_setCell_other W2 ⟨Y,2,none⟩ b _ (fun hx=>?_)).trans hb),hbl⟩
     have hx':b=Y:=hx
     rw [hx',HE2.out]at hb
     exact absurd (show(236:TypeId)=3 by injection hb with hb;injection hb) (by decide)
    have hB5:=(HB4.out.setCell (p:=⟨Y,2,none⟩) (Nat.le_refl _) (.slice (some ⟨W2.heap.size,0,none⟩) m m)).trans (hA.mono (by rw [hsz];exact Nat.le_of_lt hY2))
    have hs5:W2.heap.size<((W2.setCell ⟨Y,2,none⟩ (.slice (some ⟨W2.heap.size,0,none⟩) m m)).alloc (.cells arr2 3)).heap.size:=lt_of_row e5
    generalize(W2.setCell ⟨Y,2,none⟩ (.slice (some ⟨W2.heap.size,0,none⟩) m m)).alloc (.cells arr2 3)=W3 at *
    generalize hZ:W2.heap.size=Z at *
    refine zzK4 hS e4 e5 hB5 fun HS HE4 HE5 HB5=>?_
    have HYZ:=Lib.hid hY2;have HZ:=Lib.hid hZ
    have q5:W3.cell? ⟨p,2,none⟩=some (.slice yo m yc):=by rw [HM.out];exact(hB5.cell (p:=⟨p,2,none⟩) hp).trans HC2.out
    clear hS e4 e5 hB5 e3 hsz hA hY2 hZ hs5 q3 z5 z6 hmkd2
    go_wp2_with fail
    go_loopw [9,93] (fun _ iv wr=> ∃(j:Nat) (ar:Array Value),j<=m/\iv= .int .i64 j/\Hid (wr.heap[Z]?=some (.cells ar 3 (0,0))/\ar.size=m/\HoldsI ar j (fun i=>joinT (s.y.getD i 0) (t.y.getD i 0)))/\Hid (Below Z W3 wr)) (fun _ iv _=>m-(intOf iv).toNat)
    case atStart=>exact⟨0,arr2,Nat.zero_le _,rfl,Lib.hid ⟨HE5.out,HA2.out,fun j hj=>absurd hj (Nat.not_lt_zero j)⟩,Lib.hid (Below.refl _ _)⟩
    case round=>
     obtain⟨j,ar,hj,rfl,HK,HF⟩:=hrel
     rename World=>wr
     have HFB:Hid (Below Y w wr):=Lib.hid (HB5.out.trans (HF.out.mono (Nat.le_of_lt HYZ.out)))
     have e6:=(HF.out.block Y HYZ.out).trans HE4.out
     have HE6:=Lib.hid e6
     clear e6
     by_cases hlt:j<m
     ·as_aux_lemma=>
      have hc:=cellOf HK.out.1 (k:=j) (by rw [HK.out.2.1];exact hlt)
      have hf:wr.frozen? ⟨Z,j,none⟩=false:=frozen_of_row _ _ _ _ _ HK.out.1
      have y1:wr.cell? ⟨p,2,none⟩=some (.slice yo m yc):=by rw [HM.out];exact(HFB.out.cell (p:=⟨p,2,none⟩) hp).trans HC2.out
      have y2:wr.cell? ⟨q,2,none⟩=some (.slice yo' m yc'):=by rw [HM2.out];exact(HFB.out.cell (p:=⟨q,2,none⟩) hq).trans HD2.out
      have y3:wr.cell? ⟨Y,2,none⟩=some (.slice (some ⟨Z,0,none⟩) m m):=by rw [cell_of_row _ _ _ _ _ _ HE6.out];rfl
      obtain⟨bx,ox,hxo,hbx,z1⟩:=HL.out.y.cell (k:=j) (by rw [<-HM.out];exact hlt)
      obtain⟨bx',ox',hxo',hbx',z2⟩:=HL'.out.y.cell (k:=j) (by rw [<-HM2.out];exact hlt)
      rw [HY.out]at hbx hbx'
      replace z1:=(HFB.out.cell (p:=⟨bx,ox+j,none⟩) hbx).trans z1
      replace z2:=(HFB.out.cell (p:=⟨bx',ox'+j,none⟩) hbx').trans z2
      have hYZ:=HYZ.out
      have hK2:=HK.out.2.2.set (f:=fun i=>joinT (s.y.getD i 0) (t.y.getD i 0)) (k:=j) (by rw [HK.out.2.1];exact hlt)
      have HK2:=Lib.hid hK2
      subst hxo hxo'
      clear hK2
      generalize hv1:s.y.getD j 0=v1 at *
      generalize hv2:t.y.getD j 0=v2 at *
      have hI0:(0:Int)<=(j:Int):=by omega
      have hI3:(j:Int)<(m:Int):=by omega
      clear hv1 hv2
      go_upto_region 14 with fail
      have KS:Hid (wr.drew.cell? ⟨p,2,none⟩=some (.slice (some ⟨bx,ox,none⟩) m yc)/\wr.drew.cell? ⟨q,2,none⟩=some (.slice (some ⟨bx',ox',none⟩) m yc')/\wr.drew.cell? ⟨bx,ox+j,none⟩=some (.int .i64 v1)/\wr.drew.cell? ⟨bx',ox'+j,none⟩=some (.int .i64 v2)/\wr.drew.cell? ⟨Y,2,none⟩=some (.slice (some ⟨Z,0,none⟩) m m)):=Lib.hid ⟨y1,y2,z1,z2,y3⟩
      have KT:Hid ((wr.setCell ⟨Z,j,none⟩ (.int .i64 (joinT v1 v2))).drew.cell? ⟨p,2,none⟩=some (.slice (some ⟨bx,ox,none⟩) m yc)/\(wr.setCell ⟨Z,j,none⟩ (.int .i64 (joinT v1 v2))).drew.cell? ⟨q,2,none⟩=some (.slice (some ⟨bx',ox',none⟩) m yc') /\
       (wr.setCell ⟨Z,j,none⟩ (.int .i64 (joinT v1 v2))).drew.cell? ⟨bx,ox+j,none⟩=some (.int .i64 v1)/\(wr.setCell ⟨Z,j,none⟩ (.int .i64 (joinT v1 v2))).drew.cell? ⟨bx',ox'+j,none⟩=some (.int .i64 v2)/\(wr.setCell ⟨Z,j,none⟩ (.int .i64 (joinT v1 v2))).drew.cell? ⟨Y,2,none⟩=some (.slice (some ⟨Z,0,none⟩) m m)):=
       Lib.hid ⟨(cell_far (by omega)).trans y1,(cell_far (by omega)).trans y2,(cell_far (by omega)).trans z1,(cell_far (by omega)).trans z2,(cell_far (by omega)).trans y3⟩
      first|go_region_held3 (fun w'=>w'.cell? ⟨p,2,none⟩=some (.slice (some ⟨bx,ox,none⟩) m yc)/\w'.cell? ⟨q,2,none⟩=some (.slice (some ⟨bx',ox',none⟩) m yc')/\w'.cell? ⟨bx,ox+j,none⟩=some (.int .i64 v1)/\w'.cell? ⟨bx',ox'+j,none⟩=some (.int .i64 v2)/\w'.cell? ⟨Y,2,none⟩=some (.slice (some ⟨Z,0,none⟩) m m)) (first|with_reducible exact KS.out|with_reducible exact KT.out)
       ((go_at_call 169;refine(vjoin_any _ _ _).mono ?_;rintro e w1 ⟨rfl,rfl⟩))|fail
      go_wp2_with fail
      refine⟨⟨j+1,ar.setIfInBounds j (.int .i64 (joinT v1 v2)),hlt,by go_num,Lib.hid ⟨heap_setCell_same _ _ _ _ _ _ HK.out.1,by rw [Array.size_setIfInBounds];exact HK.out.2.1,HK2.out⟩,
       Lib.hid (HF.out.setCell (p:=⟨Z,j,none⟩) (Nat.le_refl _) _).drew⟩,by simp [intOf];omega⟩
     ·obtain rfl:j=m:=by omega
      go_wp2_with fail
      go_ret
      have hI6:IntsAt wr (some ⟨X,0,none⟩) TX:=HI4.out.imp id fun⟨b,off,cs,fr,e,hb,hr⟩=>⟨b,off,cs,fr,e,(HF.out.block b (HS.out b cs fr hb).2).trans (HS.out b cs fr hb).1,hr⟩
      have hlen:(joinL s.y t.y).length=j:=by rw [joinL_len,<-HM.out,<-HM2.out,Nat.min_self]
      have hI7:IntsAt wr (some ⟨Z,0,none⟩) (joinL s.y t.y):=.inr ⟨Z,0,ar,(0,0),rfl,HK.out.1,fun i hi=>by
       rw [hlen]at hi
       rw [Nat.zero_add,HK.out.2.2 i hi,joinL_getElem s.y t.y (by rw [<-HM.out];exact hi) (by rw [<-HM2.out];exact hi)]⟩
      have hbl:Below w.heap.size w wr:=by rw [HY.out];exact HFB.out
      refine⟨⟨Y,rfl,Nat.le_of_eq HY.out,some ⟨X,0,none⟩,k,some ⟨Z,0,none⟩,j,to',tc,?_,?_⟩,hbl⟩
      ·rw [HE6.out,HE.out]
       unfold stRow
       simp only [hlen]
       rfl
      ·rw [HE.out]
       exact⟨hI6,hI7,HL.out.t.below hbl,HT2.out,Nat.le_of_eq hlen,HL.out.tl⟩
def NewSt (w:World) (s:VSt) (e:Ending) (w':World):Prop:=(∃b,e= .returned (.pointer (some ⟨b,0,none⟩))/\w.heap.size<=b/\StAt w' b s)/\Below w.heap.size w w'
theorem valone_any (p:Nat) (s:VSt) (w:World) (hs:StAt w p s):Calls Tryz.prog 177 #[.pointer (some ⟨p,0,none⟩)] w (NewSt w (aloneV s)):=by
 obtain⟨xo,xc,yo,yc,to',tc,c0,c1,c2,c3,c4,c5,c6,hL⟩:=hs.cells
 have HL:=Lib.hid hL
 have HA:Hid (anysV 1= [1]):=Lib.hid rfl
 clear hL hs
 go_in
 go_upto_region 2 with fail
 have e0:=heap_alloc_new w (.cells (stRow s xo xc yo yc to' tc) 236)
 have hB:=(Below.refl w.heap.size w).alloc (Nat.le_refl _) (.cells (stRow s xo xc yo yc to' tc) 236)
 change (w.alloc (.cells #[.int .i64 s.frame,.slice xo s.x.length xc,.slice yo s.y.length yc,.slice to' s.tries.length tc,.bool s.mt,.int .i64 s.recv,.int .i64 s.frm] 236)).heap[w.heap.size]?=_ at e0
 change Below w.heap.size w (w.alloc (.cells #[.int .i64 s.frame,.slice xo s.x.length xc,.slice yo s.y.length yc,.slice to' s.tries.length tc,.bool s.mt,.int .i64 s.recv,.int .i64 s.frm] 236))at hB
 generalize w.alloc (.cells #[.int .i64 s.frame,.slice xo s.x.length xc,.slice yo s.y.length yc,.slice to' s.tries.length tc,.bool s.mt,.int .i64 s.recv,.int .i64 s.frm] 236)=W at *
 have HB:=Lib.hid hB
 clear c0 c1 c2 c3 c4 c5 c6 hB
 generalize hY:w.heap.size=Y at *
 have HY:=Lib.hid hY
 clear hY
 go_wp2_with fail
 refine(vanys_any 1 W ⟨by decide,by decide⟩).mono ?_
 rintro e w1 ⟨⟨ao,c,rfl,hi,hc⟩,hb1⟩
 rw [HA.out]at hi hc
 have e1:=(hb1.block Y (lt_of_row e0)).trans e0
 have HE1:=Lib.hid e1
 have HI:=Lib.hid hi;have HC:=Lib.hid hc
 have HB1:Hid (Below Y w w1):=Lib.hid (HB.out.trans (hb1.mono (by rw [<-HY.out];exact HB.out.size)))
 have z1:=cellOf e1 (k:=1) (by simp [stRow])
 have z2:w1.frozen? ⟨Y,1,none⟩=false:=frozen_of_row _ _ _ _ _ e1
 have z3:=cellOf e1 (k:=4) (by simp [stRow])
 have z4:w1.frozen? ⟨Y,4,none⟩=false:=frozen_of_row _ _ _ _ _ e1
 clear e0 e1 hi hc hb1
 go_wp2_with fail
 go_ret
 have e2:=heap_setCell_same _ Y 4 _ _ (.bool false) (heap_setCell_same _ Y 1 _ _ (.slice ao (anysV 1).length c) HE1.out)
 have hbl:Below w.heap.size w ((w1.setCell ⟨Y,1,none⟩ (.slice ao (anysV 1).length c)).setCell ⟨Y,4,none⟩ (.bool false)):=by
  rw [HY.out]
  exact(HB1.out.setCell (p:=⟨Y,1,none⟩) (Nat.le_refl _) _).setCell (p:=⟨Y,4,none⟩) (Nat.le_refl _) _
 refine⟨⟨Y,rfl,Nat.le_of_eq HY.out,ao,c,yo,yc,to',tc,e2,?_⟩,hbl⟩
 exact⟨(HI.out.setFar HE1.out (by decide)).setFar (heap_setCell_same _ _ _ _ _ _ HE1.out) (by decide),HL.out.y.below hbl,HL.out.t.below hbl,HC.out,HL.out.yl,HL.out.tl⟩
def OwnI (w:World) (B:Nat) (v:Value) (l:List Int):Prop:=w.ownsRow B 3 1 v l.length (l.map (Value.int .i64))
theorem OwnI.ints {w:World} {B:Nat} {v:Value} {l:List Int} (h:OwnI w B v l): ∃ao c,v= .slice ao l.length c/\IntsAt w ao l/\l.length<=c:=by
 rcases h.2 with⟨rfl,h0⟩|⟨g,cap,cur,rfl,hB,hg,h1,h2,h3,h4⟩
 ·exact⟨none,0,by rw [h0],.inl (List.eq_nil_of_length_eq_zero h0),Nat.le_of_eq h0⟩
 ·refine⟨_,_,rfl,.inr ⟨g,0,cur,(0,0),rfl,hg,fun j hj=>?_⟩,h1⟩
  have h5:(cur.toList.take (l.length*1))[j]?=(l.map (Value.int .i64))[j]?:=by rw [h4]
  rw [List.getElem?_take_of_lt (by omega),Array.getElem?_toList]at h5
  rw [Nat.zero_add,h5,List.getElem?_map,List.getElem?_eq_getElem hj];rfl
theorem OwnI.mono {w:World} {B B':Nat} {v:Value} {l:List Int} (h:OwnI w B v l) (hB:B'<=B):OwnI w B' v l:=
 ⟨h.1,h.2.imp id fun⟨g,cap,cur,a,b,c⟩=>⟨g,cap,cur,a,Nat.le_trans hB b,c⟩⟩
theorem vclone_any (l:List Int) (ao:zzA) (c:Nat) (w:World) (h:IntsAt w ao l) (hl:l.length<=1000000):
  Calls Tryz.prog 178 #[.slice ao l.length c] w fun e w'=>(∃v,e= .returned v/\OwnI w' w.heap.size v l)/\Below w.heap.size w w':=by
 rcases h with rfl|⟨b,off,cs,fr,rfl,hb,hr⟩
 ·cases ao with
  |none=>
   refine(Tryz.slices_Clone_int_nil 0 c w).mono ?_
   rintro e w' ⟨rfl,rfl⟩
   exact⟨⟨_,rfl,World.ownsRow_nil _ _ _ _⟩,Below.refl _ _⟩
  |some a=>
   refine(Tryz.slices_Clone_int_zero a c w).mono ?_
   rintro e w' ⟨v,rfl,ho,-,hb⟩
   exact⟨⟨v,rfl,ho⟩,hb⟩
 ·have g1: ∀j,j<l.length->w.cell? ⟨b,off+j,none⟩=some (.int .i64 (l.getD j 0)):=fun j hj=>by
   rw [cell_of_row _ _ _ _ _ _ hb,hr j hj,List.getD_eq_getElem?_getD,List.getElem?_eq_getElem hj];rfl
  refine(Tryz.slices_Clone_int b off l.length c l w (Nat.le_refl _) (by omega) g1).mono ?_
  rintro e w' ⟨v,rfl,ho,-,hb⟩
  rw [List.take_length]at ho
  exact⟨⟨v,rfl,ho⟩,hb⟩
theorem one_news (w:World) (x:Value) (T:TypeId): ∀(j:Nat) (u:Value),([x]:List Value)[j]?=some u->(w.alloc (.cells #[x] T)).cell? ((⟨w.heap.size,0,none⟩:Addr).add j)=some u:=by
 intro j u hj
 cases j with
 |zero=>
  have:x=u:=by simpa using hj
  subst this
  show(w.alloc (.cells #[x] T)).cell? ⟨w.heap.size,0+0,none⟩=some x
  rw [cell_of_row _ _ _ _ _ _ (heap_alloc_new w _)];rfl
 |succ j=>simp at hj
theorem vput_any (p:Nat) (s:VSt) (a:RArg) (tt:Int) (w:World) (hs:StAt w p s) (ls:VLen s) (h1:a.kind=1->0<=a.n/\a.n<=255) (h2:a.kind=2->0<=a.n/\a.n<s.y.length):
  Calls Tryz.prog 176 #[.pointer (some ⟨p,0,none⟩),.agg #[.int .i64 a.kind,.int .i64 a.n],.int .i64 tt] w (NewSt w (putV s a tt)):=by
 obtain⟨xo,xc,yo,yc,to',tc,c0,c1,c2,c3,c4,c5,c6,hL⟩:=hs.cells
 have HL:=Lib.hid hL
 have lx:=ls.x;have ly:=ls.y
 obtain⟨ak,an⟩:=a
 simp only at h1 h2
 have HP:Hid (putV s ⟨ak,an⟩ tt=if ak=1 then{s with x:=trimT (setN s.x an.toNat tt)}else if ak=2 then{s with y:=s.y.set an.toNat tt}else s):=Lib.hid rfl
 generalize putV s ⟨ak,an⟩ tt=R at *
 clear ls
 have hb0:=(Below.refl w.heap.size w).alloc (Nat.le_refl _) (.cells #[.int .i64 ak,.int .i64 an] 68)
 have e0:=heap_alloc_new w (.cells #[.int .i64 ak,.int .i64 an] 68)
 have hp:=hs.lt
 have HL:=Lib.hid hL
 have HL0:=Lib.hid hL
 have HC1:=Lib.hid c1;have HC2:=Lib.hid c2
 go_in
 go_upto_region 1 with fail
 generalize w.alloc (.cells #[.int .i64 ak,.int .i64 an] 68)=W at *
 replace c0:=(hb0.cell (p:=⟨p,0,none⟩) hp).trans c0
 replace c1:=(hb0.cell (p:=⟨p,1,none⟩) hp).trans c1
 replace c2:=(hb0.cell (p:=⟨p,2,none⟩) hp).trans c2
 replace c3:=(hb0.cell (p:=⟨p,3,none⟩) hp).trans c3
 replace c4:=(hb0.cell (p:=⟨p,4,none⟩) hp).trans c4
 replace c5:=(hb0.cell (p:=⟨p,5,none⟩) hp).trans c5
 replace c6:=(hb0.cell (p:=⟨p,6,none⟩) hp).trans c6
 have HB0:=Lib.hid hb0
 generalize hY:w.heap.size=Y at *
 have HY:=Lib.hid hY
 have hYW:=lt_of_row e0
 have HE0:=Lib.hid e0
 clear hL hs hb0 hY e0
 have e1:=heap_alloc_new W (.cells (stRow s xo xc yo yc to' tc) 236)
 have hB:=(Below.refl W.heap.size W).alloc (Nat.le_refl _) (.cells (stRow s xo xc yo yc to' tc) 236)
 change (W.alloc (.cells #[.int .i64 s.frame,.slice xo s.x.length xc,.slice yo s.y.length yc,.slice to' s.tries.length tc,.bool s.mt,.int .i64 s.recv,.int .i64 s.frm] 236)).heap[W.heap.size]?=_ at e1
 change Below W.heap.size W (W.alloc (.cells #[.int .i64 s.frame,.slice xo s.x.length xc,.slice yo s.y.length yc,.slice to' s.tries.length tc,.bool s.mt,.int .i64 s.recv,.int .i64 s.frm] 236))at hB
 go_upto_region 2 with fail
 generalize W.alloc (.cells #[.int .i64 s.frame,.slice xo s.x.length xc,.slice yo s.y.length yc,.slice to' s.tries.length tc,.bool s.mt,.int .i64 s.recv,.int .i64 s.frm] 236)=V at *
 have HE1:=Lib.hid e1
 have HEV:=Lib.hid ((hB.block Y hYW).trans HE0.out)
 have HBV:Hid (Below Y w V):=Lib.hid (HB0.out.trans (hB.mono (Nat.le_of_lt hYW)))
 have HLV:Hid (StLs V s xo xc yo yc to' tc):=Lib.hid ⟨HL.out.x.below (by rw [HY.out];exact HBV.out),HL.out.y.below (by rw [HY.out];exact HBV.out),HL.out.t.below (by rw [HY.out];exact HBV.out),HL.out.xl,HL.out.yl,HL.out.tl⟩
 have c1':=(HBV.out.cell (p:=⟨p,1,none⟩) hp).trans HC1.out
 have c2':=(HBV.out.cell (p:=⟨p,2,none⟩) hp).trans HC2.out
 clear HB0 HE0 HL hB e1 c0 c1 c2 c3 c4 c5 c6
 generalize W.heap.size=Z at *
 have b0:=cellOf HEV.out (k:=0) (by simp)
 have b1:=cellOf HEV.out (k:=1) (by simp)
 have z1:=cellOf HE1.out (k:=1) (by simp [stRow])
 have z2:=cellOf HE1.out (k:=2) (by simp [stRow])
 simp only [List.getElem_toArray,List.getElem_cons_zero,List.getElem_cons_succ]at b0 b1
 by_cases k1:ak=1
 ·subst k1
  obtain⟨h1a,h1b⟩:=h1 rfl
  clear h1 h2
  obtain⟨n,rfl⟩:=Int.eq_ofNat_of_zero_le h1a
  have E:Hid (R=⟨s.frame,trimT (setN s.x n tt),s.y,s.tries,s.mt,s.recv,s.frm⟩):=Lib.hid (by rw [HP.out,if_pos rfl];rfl)
  clear HP
  have hn:n<=255:=by omega
  obtain⟨i0,hi,hz0,hz1,hz2⟩:=info_parts infoInt
  go_upto_region 4 with fail
  go_wp2_with fail
  refine(vclone_any s.x xo xc V HLV.out.x (by omega)).mono ?_
  rintro e w1 ⟨⟨v,rfl,ho⟩,hb1⟩
  have hZV:=lt_of_row HE1.out
  generalize hN:V.heap.size=N at *
  have HN:=Lib.hid hN
  obtain⟨ao,c,rfl,-,-⟩:=ho.ints
  have HO:=Lib.hid ho;have HB1:=Lib.hid hb1
  clear ho hb1 hN b0 c1' c2' z1 z2
  go_wp2_with fail
  go_loopw [8] (fun v wr=> ∃(j:Nat) (ao:zzA) (c:Nat),s.x.length+j<=s.x.length+n+1/\(0<j->s.x.length+j<=n+1)/\v= .slice ao (s.x.length+j) c/\Hid (OwnI wr N (.slice ao (s.x.length+j) c) (s.x++List.replicate j 0))/\Hid (Below N V wr)) (fun v _=>match v with|.slice _ k _=>n+1-k|_=>0)
  case atStart=>exact⟨0,ao,c,by omega,by omega,rfl,Lib.hid (by rw [List.replicate_zero,List.append_nil];exact HO.out),HB1⟩
  case round=>
   obtain⟨j,ao,c,hj,hj2,rfl,HK,HF⟩:=hrel
   rename World=>wr
   have b1':wr.cell? ⟨Y,1,none⟩=some (.int .i64 (n:Int)):=(HF.out.cell (p:=⟨Y,1,none⟩) (by show Y<N;omega)).trans b1
   by_cases hlt:s.x.length+j<=n
   ·have HOA:Hid (OwnI (wr.alloc (.cells #[.int .i64 0] 3)) N (.slice ao (s.x.length+j) c) (s.x++List.replicate j 0)):=Lib.hid (HK.out.alloc _)
    have hlen:(s.x++List.replicate j 0).length=s.x.length+j:=by simp
    have hNs:N<=wr.heap.size+1:=by rw [<-HN.out];exact Nat.le_succ_of_le (by rw [HN.out];exact HN.out▸HF.out.size)
    go_wp2_with (at_builtin;refine wpList_append_own _ rfl (.tmp 26) (.tmp 27) 233 rfl N 3 i0 (.int .i64 0) 1 8 Tryz.underlying233 hi hz0 hz1 hz2 rfl (by decide) _ _ _ rfl HOA.out ⟨wr.heap.size,0,none⟩ 1 1 [.int .i64 0] rfl rfl (one_news _ _ _) (by simp [Value.oneCell']) (by rw [hlen];unfold maxLen;omega) (by rw [hlen];omega) (by simpa using hNs) ?_;intro v' w2 ho2 hg2 _)
    have hown:OwnI w2 N v' (s.x++List.replicate (j+1) 0):=by
     have e1:(s.x++List.replicate (j+1) 0).length=(s.x++List.replicate j 0).length+1:=by simp;omega
     have e2:(s.x++List.replicate (j+1) (0:Int)).map (Value.int .i64)=(s.x++List.replicate j 0).map (Value.int .i64)++ [.int .i64 0]:=by rw [List.replicate_succ'];simp
     unfold OwnI;rw [e1,e2];exact ho2
    have hbl:Below N V w2:=((HF.out.alloc (by rw [<-HN.out];exact HN.out▸HF.out.size) _).grown hg2 (by simpa using hNs) fun k e=>(HOA.out.lt k e).1)
    obtain⟨ao',c',rfl,-,-⟩:=hown.ints
    have e3:(s.x++List.replicate (j+1) (0:Int)).length=s.x.length+(j+1):=by simp
    rw [e3]at hown
    rw [e3]
    refine⟨⟨j+1,ao',c',by omega,fun _=>by omega,rfl,Lib.hid hown,Lib.hid hbl⟩,?_⟩
    show n+1-(s.x.length+(j+1))<n+1-(s.x.length+j)
    omega
   ·obtain⟨m,hm⟩: ∃m:Nat,m=s.x.length+j:=⟨_,rfl⟩
    have hS:s.x++List.replicate j 0=s.x++List.replicate (n+1-s.x.length) 0:=by
     rcases Nat.eq_zero_or_pos j with h0|h0
     ·subst h0;rw [show n+1-s.x.length=0 by omega]
     ·rw [show n+1-s.x.length=j by omega]
    have hnm:n<m:=by omega
    obtain⟨g,cap,hg⟩: ∃g cap,(Value.slice ao (s.x.length+j) c)= .slice (some ⟨g,0,none⟩) (s.x.length+j) cap:=by
     rcases HK.out.2 with⟨-,h0⟩|⟨g,cap,cur,h,-⟩
     ·rw [List.length_append,List.length_replicate]at h0;omega
     ·have e3:(s.x++List.replicate j (0:Int)).length=s.x.length+j:=by simp
      rw [e3]at h
      exact⟨g,cap,h⟩
    injection hg with hg1 hg2 hg3
    subst hg1 hg3
    obtain⟨cur,hrow,hcs,hNg⟩: ∃cur:Array Value,wr.heap[g]?=some (.cells cur 3 (0,0))/\n<cur.size/\N<=g:=by
     rcases HK.out.2 with⟨h,-⟩|⟨g',cap',cur,h,hB,hgg,h1,h2,h3,h4⟩
     ·cases h
     ·injection h with ha hb hc
      injection ha with ha
      injection ha with ha
      subst ha
      have e3:(s.x++List.replicate j (0:Int)).length=s.x.length+j:=by simp
      rw [e3]at h1
      exact⟨cur,hgg,by omega,hB⟩
    have hc:=cellOf hrow hcs
    have hf:wr.frozen? ⟨g,n,none⟩=false:=frozen_of_row _ _ _ _ _ hrow
    have hk:=HK.out
    unfold OwnI at hk
    have e3:(s.x++List.replicate j (0:Int)).length=s.x.length+j:=by simp
    rw [e3]at hk
    obtain⟨hst,hgr⟩:=hk.stored n (.int .i64 tt)
    have hown:OwnI (wr.setCell ⟨g,n,none⟩ (.int .i64 tt)) N (.slice (some ⟨g,0,none⟩) (s.x.length+j) c) (setN s.x n tt):=by
     unfold OwnI setN
     rw [<-hS,List.length_set,e3,List.map_set]
     exact hst
    have hlen:(setN s.x n tt).length=s.x.length+j:=by unfold setN;rw [<-hS,List.length_set,e3]
    obtain⟨ai,ci,hi1,hi2,hi3⟩:=hown.ints
    rw [hlen]at hi1 hi3
    injection hi1 with ha hb hc'
    subst ha hc'
    have hbl:Below N V (wr.setCell ⟨g,n,none⟩ (.int .i64 tt)):=HF.out.setCell (p:=⟨g,n,none⟩) hNg _
    have htr:=vtrim_any (setN s.x n tt) _ c _ hi2 (by rw [hlen];unfold maxLen;omega) (by rw [hlen];exact hi3)
    have hI2:=hi2.take (trimN (setN s.x n tt) (setN s.x n tt).length)
    change IntsAt _ _ (trimT (setN s.x n tt))at hI2
    have hT2:(trimT (setN s.x n tt)).length<=c:=by unfold trimT;rw [List.length_take];omega
    rw [hlen]at htr
    refine zzK4 htr hI2 hT2 hbl fun HTR HI2 HT2 HBL=>?_
    have hI0:(0:Int)<=(n:Int):=by omega
    have hI1:(n:Int)<((s.x.length+j:Nat):Int):=by omega
    generalize trimT (setN s.x n tt)=TX at *
    clear htr hI2 hT2 hbl hst hgr hk hown hi2 hS hi3 hlen hrow HK HF HO HB1 hm
    go_wp2_with fail
    generalize wr.setCell ⟨g,n,none⟩ (.int .i64 tt)=W3 at *
    refine HTR.out.mono ?_
    rintro e w4 ⟨rfl,hb4⟩
    have hV4:Below N V w4:=HBL.out.trans (hb4.mono (by rw [<-HN.out];exact HBL.out.size |> fun h=>by rw [HN.out]at h ⊢;exact h))
    have e4:=(hV4.block Z hZV).trans HE1.out
    have hI4:=HI2.out.below hb4
    refine zzK3 hI4 e4 hV4 fun HI4 HE4 HV4=>?_
    have y1:=cellOf e4 (k:=1) (by simp [stRow])
    have y2:w4.frozen? ⟨Z,1,none⟩=false:=frozen_of_row _ _ _ _ _ e4
    clear hV4 e4 hI4 hb4 HTR HI2 HBL
    go_wp2_with fail
    go_ret
    have hY4:Below Y w (w4.setCell ⟨Z,1,none⟩ (.slice (some ⟨g,0,none⟩) TX.length c)):=(HBV.out.trans (HV4.out.mono (by omega))).setCell (p:=⟨Z,1,none⟩) (Nat.le_of_lt hYW) _
    rw [<-HY.out]at hY4
    refine⟨⟨Z,rfl,by rw [HY.out];exact Nat.le_of_lt hYW,some ⟨g,0,none⟩,c,yo,yc,to',tc,?_,?_⟩,hY4⟩
    ·rw [E.out];exact heap_setCell_same _ Z 1 _ _ _ HE4.out
    ·rw [E.out]
     exact⟨HI4.out.setFar HE4.out (by decide),HL0.out.y.below hY4,HL0.out.t.below hY4,HT2.out,HL0.out.yl,HL0.out.tl⟩
 ·by_cases k2:ak=2
  ·subst k2
   obtain⟨h2a,h2b⟩:=h2 rfl
   clear h1 h2 k1
   obtain⟨n,rfl⟩:=Int.eq_ofNat_of_zero_le h2a
   have E:Hid (R=⟨s.frame,s.x,s.y.set n tt,s.tries,s.mt,s.recv,s.frm⟩):=Lib.hid (by rw [HP.out,if_neg (by decide),if_pos rfl];rfl)
   clear HP
   go_wp2_with fail
   refine(vclone_any s.y yo yc V HLV.out.y (by omega)).mono ?_
   rintro e w1 ⟨⟨v,rfl,ho⟩,hb1⟩
   have hZV:=lt_of_row HE1.out
   generalize hN:V.heap.size=N at *
   have HN:=Lib.hid hN
   obtain⟨g,cap,cur,rfl,hNg,hgg,hg1,hg2,hg3,hg4⟩: ∃g cap cur,v= .slice (some ⟨g,0,none⟩) s.y.length cap/\N<=g/\w1.heap[g]?=some (.cells cur 3 (0,0))/\s.y.length<=cap/\cap<=maxLen/\cur.size=cap*1/\cur.toList.take (s.y.length*1)=s.y.map (Value.int .i64):=by
    rcases ho.2 with⟨-,h0⟩|h
    ·omega
    ·exact h
   have HO:=Lib.hid ho;have HB1:=Lib.hid hb1
   have e4:=(hb1.block Z hZV).trans HE1.out
   have HE4:=Lib.hid e4
   have y1:=cellOf e4 (k:=2) (by simp [stRow])
   have y2:w1.frozen? ⟨Z,2,none⟩=false:=frozen_of_row _ _ _ _ _ e4
   clear ho hb1 e4 c1' c2' z1 z2 hg4
   go_upto_region 11 with fail
   have hZg:g≠Z:=by omega
   have x1:=heap_setCell_same w1 Z 2 _ _ (.slice (some ⟨g,0,none⟩) s.y.length cap) HE4.out
   have x2:(w1.setCell ⟨Z,2,none⟩ (.slice (some ⟨g,0,none⟩) s.y.length cap)).heap[g]?=_:=(heap_setCell_other w1 ⟨Z,2,none⟩ g _ hZg).trans hgg
   have x3:OwnI (w1.setCell ⟨Z,2,none⟩ (.slice (some ⟨g,0,none⟩) s.y.length cap)) N (.slice (some ⟨g,0,none⟩) s.y.length cap) s.y:=ownsRow_setCell_below HO.out hZV _
   have x4:Below Y w (w1.setCell ⟨Z,2,none⟩ (.slice (some ⟨g,0,none⟩) s.y.length cap)):=(HBV.out.trans (HB1.out.mono (by omega))).setCell (p:=⟨Z,2,none⟩) (Nat.le_of_lt hYW) _
   have x5:(w1.setCell ⟨Z,2,none⟩ (.slice (some ⟨g,0,none⟩) s.y.length cap)).cell? ⟨Y,1,none⟩=some (.int .i64 (n:Int)):=by
    unfold World.cell?
    rw [heap_setCell_other w1 ⟨Z,2,none⟩ Y _ (by show Y≠Z;omega)]
    exact(HB1.out.cell (p:=⟨Y,1,none⟩) (by show Y<N;omega)).trans b1
   generalize w1.setCell ⟨Z,2,none⟩ (.slice (some ⟨g,0,none⟩) s.y.length cap)=W4 at *
   refine zzK3 x1 x3 x4 fun X1 X3 X4=>?_
   have x6:W4.cell? ⟨Z,2,none⟩=some (.slice (some ⟨g,0,none⟩) s.y.length cap):=by rw [cell_of_row _ _ _ _ _ _ x1];rfl
   have hnc:n<cur.size:=by omega
   have hc:=cellOf x2 hnc
   have hf:W4.frozen? ⟨g,n,none⟩=false:=frozen_of_row _ _ _ _ _ x2
   clear y1 y2 x1 x2 x3 x4 HO HE4 hgg HB1
   go_wp2_with fail
   go_ret
   obtain⟨hst,hgr⟩:=World.ownsRow.stored X3.out n (.int .i64 tt)
   have hown:OwnI (W4.setCell ⟨g,n,none⟩ (.int .i64 tt)) N (.slice (some ⟨g,0,none⟩) s.y.length cap) (s.y.set n tt):=by
    unfold OwnI
    rw [List.length_set,List.map_set]
    exact hst
   obtain⟨ai,ci,hi1,hi2,hi3⟩:=hown.ints
   rw [List.length_set]at hi1 hi3
   injection hi1 with ha hb hc'
   subst ha hc'
   have hY4:Below Y w (W4.setCell ⟨g,n,none⟩ (.int .i64 tt)):=X4.out.setCell (p:=⟨g,n,none⟩) (by show Y<=g;omega) _
   rw [<-HY.out]at hY4
   refine⟨⟨Z,rfl,by rw [HY.out];exact Nat.le_of_lt hYW,xo,xc,some ⟨g,0,none⟩,cap,to',tc,?_,?_⟩,hY4⟩
   ·rw [E.out]
    refine(heap_setCell_other W4 ⟨g,n,none⟩ Z _ (by show Z≠g;omega)).trans (X1.out.trans ?_)
    unfold stRow
    simp only [List.length_set]
    rfl
   ·rw [E.out]
    exact⟨HL0.out.x.below hY4,hi2,HL0.out.t.below hY4,HL0.out.xl,by rw [List.length_set];exact hg1,HL0.out.tl⟩
  ·have E:Hid (R=s):=Lib.hid (by rw [HP.out,if_neg k1,if_neg k2])
   have t1:(ak==1)=false:=beq_eq_false_iff_ne.2 k1
   have t2:(ak==2)=false:=beq_eq_false_iff_ne.2 k2
   clear HP h1 h2 k1 k2 z1 z2 c1' c2' b1
   go_wp2_with fail
   go_ret
   have hY4:=HBV.out
   rw [<-HY.out]at hY4
   exact⟨⟨Z,rfl,by rw [HY.out];exact Nat.le_of_lt hYW,by rw [E.out];exact⟨xo,xc,yo,yc,to',tc,HE1.out,HLV.out⟩⟩,hY4⟩
end Go.Proofs.YtponljdhfoipjaaGreatDoor
