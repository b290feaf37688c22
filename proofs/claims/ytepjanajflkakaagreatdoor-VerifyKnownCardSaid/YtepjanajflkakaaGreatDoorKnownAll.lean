/- the law -/
import Derived.Test.YtepjanajflkakaaGreatDoorCards
import Derived.Test.YtepjanajflkakaaGreatDoorTie
import Derived.Deep.DeepHandedRow
import Derived.Deep.DeepLaidRun
import Derived.Deep.DeepWitnessRowRef
import Derived.ProofKit
import Derived.OpenShut
import Derived.ShutString
import Derived.Test.YtepjanajflkakaaGreatDoorKnownAll15
namespace Go.Proofs.YtepjanajflkakaaGreatDoor
open Go.RowKit
set_option linter.unusedVariables false
set_option linter.unusedSimpArgs false
set_option maxRecDepth 100000
set_option maxHeartbeats 40000000
noncomputable def kops:Array Oper:=(Tryz.f7.body.map (regOps 3)).getD #[]
def katL:List Int:=[0,0,0,1,1,1,0,0,2,0,3,6]
def kwantL:List Int:=[180,0,181,181,185,182,183,0,184,6,182,184]
structure KUnit (w:World) (C k:Nat):Prop where
 ex: ∃l n fo co fc cc i e,n=l.length/\w.cell? ⟨C,k*6,none⟩=some (.string strM)/\w.cell? ⟨C,k*6+1,none⟩=some (.int .i64 1)/\w.cell? ⟨C,k*6+2,none⟩=some (.slice none 0 0)/\w.cell? ⟨C,k*6+3,none⟩=some (.slice fo 1 fc)/\w.cell? ⟨C,k*6+4,none⟩=some (.slice none 0 0)/\w.cell? ⟨C,k*6+5,none⟩=some (.slice co n cc) /\
  UP w (exU l) none fo none co/\l.all (fun x=>x.name.size==0)=true/\whereV 1 (exU l)=(i,e)/\katL[k]?=some i/\kwantL[k]?=some e
theorem KUnit.below {w w':World} {C k:Nat} (h:KUnit w C k) (hC:C<w.heap.size) (hb:Below w.heap.size w w'):KUnit w' C k:=by
 obtain⟨l,n,fo,co,fc,cc,i,e,h0,c0,c1,c2,c3,c4,c5,h1,h2⟩:=h.ex
 have kk: ∀j v,w.cell? ⟨C,j,none⟩=some v->w'.cell? ⟨C,j,none⟩=some v:=fun j v h=>(hb.cell (p:=⟨C,j,none⟩) hC).trans h
 exact⟨l,n,fo,co,fc,cc,i,e,h0,kk _ _ c0,kk _ _ c1,kk _ _ c2,kk _ _ c3,kk _ _ c4,kk _ _ c5,h1.below hb,h2⟩
def KAll (w:World) (C:Nat):Prop:=C<w.heap.size/\ ∀k,k<12->KUnit w C k
theorem KAll.below {w w':World} {C:Nat} (h:KAll w C) (hb:Below w.heap.size w w'):KAll w' C:=⟨Nat.lt_of_lt_of_le h.1 hb.size,fun k hk=>(h.2 k hk).below h.1 hb⟩
inductive KFct where
 |val (v:Value)
 |sl (l:List RIns) (n:Nat)
 |un (l:List RIns) (n:Nat)
 |all
def KFct.holds (w:World) (v:Value):KFct->Prop
 |.val u=>v=u
 |.sl l n=> ∃b,v= .slice (some ⟨b,0,none⟩) n n/\SlAt w 10 (InsR w) (some ⟨b,0,none⟩) l
 |.un l n=> ∃fo fc co cc,v= .agg #[.string strM,.int .i64 1,.slice none 0 0,.slice fo 1 fc,.slice none 0 0,.slice co n cc]/\UP w (exU l) none fo none co
 |.all=> ∃C,v= .slice (some ⟨C,0,none⟩) 12 12/\KAll w C
theorem KFct.below {w w':World} {v:Value} (hb:Below w.heap.size w w'): ∀{f:KFct},f.holds w v->f.holds w' v
 |.val _,h=>h
 |.sl _ _,⟨b,e,h⟩=>⟨b,e,h.mono hb fun _ _ h=>h.below hb⟩
 |.un _ _,⟨fo,fc,co,cc,e,h⟩=>⟨fo,fc,co,cc,e,h.below hb⟩
 |.all,⟨C,e,h⟩=>⟨C,e,h.below hb⟩
def ktab (O:Nat):List KFct:=[.val (.agg #[.int .i64 1,.int .i64 0]),
 .val (.slice (some ⟨O,0,none⟩) 1 1),
 .val (.agg #[.int .i64 6,.int .i64 1,.int .i64 0,.slice (some ⟨O,0,none⟩) 1 1,.int .i64 0,.int .i64 0,.int .i64 0,.string ⟨#[]⟩,.slice none 0 0,.slice none 0 0]),
 .val (.agg #[.int .i64 26,.int .i64 0,.int .i64 0,.slice none 0 0,.int .i64 0,.int .i64 0,.int .i64 0,.string ⟨#[]⟩,.slice none 0 0,.slice none 0 0]),
 .sl kl0 2,
 .un kl0 2,
 .val (.slice (some ⟨O,0,none⟩) 1 1),
 .val (.agg #[.int .i64 10,.int .i64 0,.int .i64 0,.slice (some ⟨O,0,none⟩) 1 1,.int .i64 3,.int .i64 0,.int .i64 0,.string ⟨#[]⟩,.slice none 0 0,.slice none 0 0]),
 .val (.agg #[.int .i64 1,.int .i64 0]),
 .val (.slice (some ⟨O,0,none⟩) 1 1),
 .val (.agg #[.int .i64 6,.int .i64 1,.int .i64 0,.slice (some ⟨O,0,none⟩) 1 1,.int .i64 0,.int .i64 0,.int .i64 0,.string ⟨#[]⟩,.slice none 0 0,.slice none 0 0]),
 .val (.agg #[.int .i64 26,.int .i64 0,.int .i64 0,.slice none 0 0,.int .i64 0,.int .i64 0,.int .i64 0,.string ⟨#[]⟩,.slice none 0 0,.slice none 0 0]),
 .val (.agg #[.int .i64 26,.int .i64 0,.int .i64 0,.slice none 0 0,.int .i64 0,.int .i64 0,.int .i64 0,.string ⟨#[]⟩,.slice none 0 0,.slice none 0 0]),
 .sl kl1 4,
 .un kl1 4,
 .val (.agg #[.int .i64 2,.int .i64 0]),
 .val (.slice (some ⟨O,0,none⟩) 1 1),
 .val (.agg #[.int .i64 1,.int .i64 2,.int .i64 0,.slice (some ⟨O,0,none⟩) 1 1,.int .i64 0,.int .i64 0,.int .i64 0,.string ⟨#[]⟩,.slice none 0 0,.slice none 0 0]),
 .val (.agg #[.int .i64 26,.int .i64 0,.int .i64 0,.slice none 0 0,.int .i64 0,.int .i64 0,.int .i64 0,.string ⟨#[]⟩,.slice none 0 0,.slice none 0 0]),
 .sl kl2 2,
 .un kl2 2,
 .val (.agg #[.int .i64 24,.int .i64 0,.int .i64 0,.slice none 0 0,.int .i64 0,.int .i64 1,.int .i64 0,.string ⟨#[]⟩,.slice none 0 0,.slice none 0 0]),
 .val (.agg #[.int .i64 26,.int .i64 0,.int .i64 0,.slice none 0 0,.int .i64 0,.int .i64 0,.int .i64 0,.string ⟨#[]⟩,.slice none 0 0,.slice none 0 0]),
 .sl kl3 2,
 .un kl3 2,
 .val (.agg #[.int .i64 24,.int .i64 0,.int .i64 0,.slice none 0 0,.int .i64 0,.int .i64 1,.int .i64 0,.string ⟨#[]⟩,.slice none 0 0,.slice none 0 0]),
 .val (.agg #[.int .i64 25,.int .i64 0,.int .i64 0,.slice none 0 0,.int .i64 0,.int .i64 0,.int .i64 0,.string ⟨#[]⟩,.slice none 0 0,.slice none 0 0]),
 .sl kl4 2,
 .un kl4 2,
 .val (.agg #[.int .i64 28,.int .i64 0,.int .i64 0,.slice none 0 0,.int .i64 2,.int .i64 0,.int .i64 0,.string ⟨#[]⟩,.slice none 0 0,.slice none 0 0]),
 .val (.agg #[.int .i64 26,.int .i64 0,.int .i64 0,.slice none 0 0,.int .i64 0,.int .i64 0,.int .i64 0,.string ⟨#[]⟩,.slice none 0 0,.slice none 0 0]),
 .val (.agg #[.int .i64 26,.int .i64 0,.int .i64 0,.slice none 0 0,.int .i64 0,.int .i64 0,.int .i64 0,.string ⟨#[]⟩,.slice none 0 0,.slice none 0 0]),
 .sl kl5 3,
 .un kl5 3,
 .val (.agg #[.int .i64 34,.int .i64 0,.int .i64 0,.slice none 0 0,.int .i64 1,.int .i64 0,.int .i64 0,.string ⟨#[]⟩,.slice none 0 0,.slice none 0 0]),
 .val (.agg #[.int .i64 26,.int .i64 0,.int .i64 0,.slice none 0 0,.int .i64 0,.int .i64 0,.int .i64 0,.string ⟨#[]⟩,.slice none 0 0,.slice none 0 0]),
 .sl kl6 2,
 .un kl6 2,
 .val (.agg #[.int .i64 36,.int .i64 0,.int .i64 0,.slice none 0 0,.int .i64 0,.int .i64 0,.int .i64 0,.string ⟨#[]⟩,.slice none 0 0,.slice none 0 0]),
 .val (.agg #[.int .i64 37,.int .i64 0,.int .i64 0,.slice none 0 0,.int .i64 3,.int .i64 0,.int .i64 0,.string ⟨#[]⟩,.slice none 0 0,.slice none 0 0]),
 .val (.agg #[.int .i64 39,.int .i64 0,.int .i64 0,.slice none 0 0,.int .i64 1,.int .i64 0,.int .i64 0,.string ⟨#[]⟩,.slice none 0 0,.slice none 0 0]),
 .val (.agg #[.int .i64 40,.int .i64 0,.int .i64 0,.slice none 0 0,.int .i64 1,.int .i64 0,.int .i64 0,.string ⟨#[]⟩,.slice none 0 0,.slice none 0 0]),
 .val (.agg #[.int .i64 1,.int .i64 0]),
 .val (.agg #[.int .i64 2,.int .i64 1,.int .i64 0,.slice none 0 0,.int .i64 0,.int .i64 0,.int .i64 0,.string ⟨#[]⟩,.slice none 0 0,.slice none 0 0]),
 .val (.agg #[.int .i64 26,.int .i64 0,.int .i64 0,.slice none 0 0,.int .i64 0,.int .i64 0,.int .i64 0,.string ⟨#[]⟩,.slice none 0 0,.slice none 0 0]),
 .sl kl7 6,
 .un kl7 6,
 .val (.agg #[.int .i64 36,.int .i64 0,.int .i64 0,.slice none 0 0,.int .i64 0,.int .i64 0,.int .i64 0,.string ⟨#[]⟩,.slice none 0 0,.slice none 0 0]),
 .val (.agg #[.int .i64 37,.int .i64 0,.int .i64 0,.slice none 0 0,.int .i64 3,.int .i64 0,.int .i64 0,.string ⟨#[]⟩,.slice none 0 0,.slice none 0 0]),
 .val (.agg #[.int .i64 26,.int .i64 0,.int .i64 0,.slice none 0 0,.int .i64 0,.int .i64 0,.int .i64 0,.string ⟨#[]⟩,.slice none 0 0,.slice none 0 0]),
 .val (.agg #[.int .i64 40,.int .i64 0,.int .i64 0,.slice none 0 0,.int .i64 1,.int .i64 0,.int .i64 0,.string ⟨#[]⟩,.slice none 0 0,.slice none 0 0]),
 .val (.agg #[.int .i64 26,.int .i64 0,.int .i64 0,.slice none 0 0,.int .i64 0,.int .i64 0,.int .i64 0,.string ⟨#[]⟩,.slice none 0 0,.slice none 0 0]),
 .sl kl8 5,
 .un kl8 5,
 .val (.agg #[.int .i64 99,.int .i64 0,.int .i64 0,.slice none 0 0,.int .i64 0,.int .i64 0,.int .i64 0,.string ⟨#[]⟩,.slice none 0 0,.slice none 0 0]),
 .val (.agg #[.int .i64 26,.int .i64 0,.int .i64 0,.slice none 0 0,.int .i64 0,.int .i64 0,.int .i64 0,.string ⟨#[]⟩,.slice none 0 0,.slice none 0 0]),
 .sl kl9 2,
 .un kl9 2,
 .val (.agg #[.int .i64 28,.int .i64 0,.int .i64 0,.slice none 0 0,.int .i64 2,.int .i64 0,.int .i64 0,.string ⟨#[]⟩,.slice none 0 0,.slice none 0 0]),
 .val (.agg #[.int .i64 8,.int .i64 0,.int .i64 0,.slice none 0 0,.int .i64 3,.int .i64 0,.int .i64 0,.string ⟨#[]⟩,.slice none 0 0,.slice none 0 0]),
 .val (.agg #[.int .i64 26,.int .i64 0,.int .i64 0,.slice none 0 0,.int .i64 0,.int .i64 0,.int .i64 0,.string ⟨#[]⟩,.slice none 0 0,.slice none 0 0]),
 .val (.agg #[.int .i64 1,.int .i64 0]),
 .val (.agg #[.int .i64 2,.int .i64 1,.int .i64 0,.slice none 0 0,.int .i64 0,.int .i64 0,.int .i64 0,.string ⟨#[]⟩,.slice none 0 0,.slice none 0 0]),
 .val (.agg #[.int .i64 29,.int .i64 0,.int .i64 0,.slice none 0 0,.int .i64 0,.int .i64 0,.int .i64 0,.string ⟨#[]⟩,.slice none 0 0,.slice none 0 0]),
 .val (.agg #[.int .i64 26,.int .i64 0,.int .i64 0,.slice none 0 0,.int .i64 0,.int .i64 0,.int .i64 0,.string ⟨#[]⟩,.slice none 0 0,.slice none 0 0]),
 .sl kl10 6,
 .un kl10 6,
 .un kl11 10,
 .all,
 .all]
def kdst (i:Nat):Nat:=if i=69 then 3 else 18+i
structure RI (O B:Nat) (W3:World) (listed:Array Bool) (a:Act) (w:World):Prop where
 sz:a.tmps.size=155
 df:a.defers= []
 e1:a.eval (.tmp 1)= .pointer (some ⟨B,0,none⟩)
 e2:a.eval (.tmp 2)= .slice (some ⟨O,0,none⟩) 1 1
 bel:Below W3.heap.size W3 w
 bk:w.heap[B]?=some (.cells #[.int .i64 26,.int .i64 0,.int .i64 0,.slice none 0 0,.int .i64 0,.int .i64 0,.int .i64 0,.string ⟨#[]⟩,.slice none 0 0,.slice none 0 0] 47 (0,0))
 one:w.heap[O]?=some (.cells #[.int .i64 1,.int .i64 0] 42 (0,0))
 fc: ∀i,i<70->listed.getD i false=true->((ktab O).getD i .all).holds w (a.eval (.tmp (kdst i)))
theorem RI.put {O B:Nat} {W3:World} {listed:Array Bool} {a:Act} {w:World} (h:RI O B W3 listed a w) (i:Nat) (hi:i<70) (v:Value) (w':World) (hb:Below w.heap.size w w') (hv:((ktab O).getD i .all).holds w' v):RI O B W3 (listed.setIfInBounds i true) (a.put (some (kdst i)) v) w':=by
 have hk: ∀j,j<70->kdst j<155/\kdst j≠1/\kdst j≠2:=fun j hj=>by unfold kdst;split<;>omega
 have hd:=(hk i hi).1
 have hd':kdst i<a.tmps.size:=by rw [h.sz];exact hd
 refine⟨?_,h.df,?_,?_,below_next h.bel hb,(hb.block _ (lt_of_row h.bk)).trans h.bk,(hb.block _ (lt_of_row h.one)).trans h.one,fun j hj hl=>?_⟩
 ·show(a.tmps.setIfInBounds _ _).size=155
  rw [Array.size_setIfInBounds];exact h.sz
 ·rw [eval_put _ _ _ _ hd',if_neg (fun e=>(hk i hi).2.1 e.symm)];exact h.e1
 ·rw [eval_put _ _ _ _ hd',if_neg (fun e=>(hk i hi).2.2 e.symm)];exact h.e2
 ·rw [eval_put _ _ _ _ hd']
  by_cases c:j=i
  ·subst c;rw [if_pos rfl];exact hv
  ·have hne:kdst j≠kdst i:=by unfold kdst;split<;>split<;>omega
   rw [if_neg hne]
   refine KFct.below hb (h.fc j hj ?_)
   rw [Array.getD_eq_getD_getElem?,Array.getElem?_setIfInBounds_ne (fun e=>c e.symm),<-Array.getD_eq_getD_getElem?]at hl
   exact hl
noncomputable def depB (i d:Nat):Bool:=match kops[i]? with
 |some o=>o.after.any fun e=>Region.binds .any e&&e.on==d
 |none=>false
theorem kdep {listed:Array Bool} {i:Nat} (d:Nat) (hr:i∈Region.ready .any kops listed) (h:depB i d=true):listed.getD d false=true:=by
 unfold depB at h
 cases ho:kops[i]? with
 |none=>rw [ho]at h;cases h
 |some o=>
  rw [ho]at h
  obtain⟨e,he,hb⟩:=Array.any_eq_true'.1 (show o.after.any (fun e=>Region.binds .any e&&e.on==d)=true from h)
  rw [Bool.and_eq_true,beq_iff_eq]at hb
  rw [<-hb.2]
  exact(ready_mem hr).2.2 o ho e he hb.1
theorem info_two {P:Program} {t:TypeId} {z:Value} {n:Nat} (h:(P.info? t).map (fun i=>(i.zero,i.size))=some (some z,n)): ∃i,P.info? t=some i/\i.zero=some z/\i.size=n:=by
 cases hi:P.info? t with
 |none=>rw [hi]at h;cases h
 |some i=>
  rw [hi]at h
  have h:=Option.some.inj h
  exact⟨i,rfl,congrArg Prod.fst h,congrArg Prod.snd h⟩
theorem infoUnit2:(Tryz.prog.info? 27).map (fun i=>(i.zero,i.size))=some (some (.agg #[.string ⟨#[]⟩,.int .i64 0,.slice none 0 0,.slice none 0 0,.slice none 0 0,.slice none 0 0]),6):=by kernel_rfl
theorem kops_size:kops.size=70:=by kernel_rfl
theorem kops_back:backOk .any kops=true:=by kernel_rfl
section
variable {O B:Nat} {W3:World} {listed:Array Bool} {a:Act} {w:World} {Q:Exit->Act->World->Prop}
theorem kst0 (h:RI O B W3 listed a w) (hr:0∈Region.ready .any kops listed):wpOp Tryz.prog kops Q 0 (fun a' w'=>RI O B W3 (listed.setIfInBounds 0 true) a' w') a w:=by
 refine wpOp_of (o:=_) rfl rfl ?_
 refine wp_call' 24 #[.int .i64 0] (by kernel_rfl) (fun v w''=>v= .agg #[.int .i64 1,.int .i64 0]/\Below w.heap.size w w'') ((lawx_any 0 w).mono fun e w'' hh=>⟨_,hh.1,rfl,hh.2⟩) ?_
 rintro v w'' ⟨rfl,hb⟩
 exact h.put 0 (by decide) _ _ hb rfl
theorem kst1 (h:RI O B W3 listed a w) (hr:1∈Region.ready .any kops listed):wpOp Tryz.prog kops Q 1 (fun a' w'=>RI O B W3 (listed.setIfInBounds 1 true) a' w') a w:=by
 refine wpOp_of (o:=_) rfl rfl ?_
 refine wp_move _ rfl ?_
 exact h.put 1 (by decide) _ _ (Below.refl _ _) h.e2
theorem kst2 (h:RI O B W3 listed a w) (hr:2∈Region.ready .any kops listed):wpOp Tryz.prog kops Q 2 (fun a' w'=>RI O B W3 (listed.setIfInBounds 2 true) a' w') a w:=by
 refine wpOp_of (o:=_) rfl rfl ?_
 have f0:a.eval (.tmp 18)=_:=h.fc 0 (by decide) (kdep 0 hr (by kernel_rfl))
 have f1:a.eval (.tmp 19)=_:=h.fc 1 (by decide) (kdep 1 hr (by kernel_rfl))
 refine wp_build' _ _ rfl #[.int .i64 6,.int .i64 1,.int .i64 0,.slice (some ⟨O,0,none⟩) 1 1,.int .i64 0,.int .i64 0,.int .i64 0,.string ⟨#[]⟩,.slice none 0 0,.slice none 0 0] ?_ ?_
 ·simp only [List.map_toArray,List.map_cons,List.map_nil,f0,f1]
  kernel_rfl
 exact h.put 2 (by decide) _ _ (Below.refl _ _) rfl
theorem kst3 (h:RI O B W3 listed a w) (hr:3∈Region.ready .any kops listed):wpOp Tryz.prog kops Q 3 (fun a' w'=>RI O B W3 (listed.setIfInBounds 3 true) a' w') a w:=by
 refine wpOp_of (o:=_) rfl rfl ?_
 refine wp_load_row 47 (.tmp 1) rfl B h.e1 47 _ _ _ h.bk Tryz.underlying47 rfl (by kernel_rfl) ?_
 exact h.put 3 (by decide) _ _ (Below.refl _ _) rfl
theorem kst4 (h:RI O B W3 listed a w) (hr:4∈Region.ready .any kops listed):wpOp Tryz.prog kops Q 4 (fun a' w'=>RI O B W3 (listed.setIfInBounds 4 true) a' w') a w:=by
 refine wpOp_of (o:=_) rfl rfl ?_
 have f2:a.eval (.tmp 20)=_:=h.fc 2 (by decide) (kdep 2 hr (by kernel_rfl))
 have f3:a.eval (.tmp 21)=_:=h.fc 3 (by decide) (kdep 3 hr (by kernel_rfl))
 obtain⟨ie,hie,hz0,hz1,hz2⟩:=info_parts infoIns2
 refine wp_buildSlice _ _ _ _ rfl (kc0 O).toArray ie _ Tryz.underlying25 hie hz0 (by rw [hz1];decide) (by rw [hz1];decide) ?_ ?_
 ·rw [hz1]
  simp only [List.map_toArray,List.map_cons,List.map_nil,f2,f3]
  kernel_rfl
 have hba:Below w.heap.size w (w.alloc (.cells (kc0 O).toArray 47)):=(Below.refl _ _).alloc (Nat.le_refl _) _
 exact h.put 4 (by decide) _ _ hba ⟨w.heap.size,rfl,ks0 ((hba.block _ (lt_of_row h.one)).trans h.one) (heap_alloc_new _ _)⟩
theorem kst5 (h:RI O B W3 listed a w) (hr:5∈Region.ready .any kops listed):wpOp Tryz.prog kops Q 5 (fun a' w'=>RI O B W3 (listed.setIfInBounds 5 true) a' w') a w:=by
 refine wpOp_of (o:=_) rfl rfl ?_
 obtain⟨b,f,hs⟩:=h.fc 4 (by decide) (kdep 4 hr (by kernel_rfl))
 have f:a.eval (.tmp 22)=_:=f
 refine wp_call' 25 #[.slice (some ⟨b,0,none⟩) 2 2] (by
  rw [<-f]
  kernel_rfl) (fun v w''=>(KFct.un kl0 2).holds w'' v/\Below w.heap.size w w'') ((unit_any kl0 2 rfl _ 2 w hs (by unfold kl0;simp) (by decide)).mono fun e w'' hh=>by
  obtain⟨⟨fo,fc,co,cc,e1,hup⟩,hb⟩:=hh
  exact⟨_,e1,⟨fo,fc,co,cc,rfl,hup⟩,hb⟩) ?_
 rintro v w'' ⟨hv,hb⟩
 exact h.put 5 (by decide) _ _ hb hv
theorem kst6 (h:RI O B W3 listed a w) (hr:6∈Region.ready .any kops listed):wpOp Tryz.prog kops Q 6 (fun a' w'=>RI O B W3 (listed.setIfInBounds 6 true) a' w') a w:=by
 refine wpOp_of (o:=_) rfl rfl ?_
 refine wp_move _ rfl ?_
 exact h.put 6 (by decide) _ _ (Below.refl _ _) h.e2
theorem kst7 (h:RI O B W3 listed a w) (hr:7∈Region.ready .any kops listed):wpOp Tryz.prog kops Q 7 (fun a' w'=>RI O B W3 (listed.setIfInBounds 7 true) a' w') a w:=by
 refine wpOp_of (o:=_) rfl rfl ?_
 have f6:a.eval (.tmp 24)=_:=h.fc 6 (by decide) (kdep 6 hr (by kernel_rfl))
 refine wp_build' _ _ rfl #[.int .i64 10,.int .i64 0,.int .i64 0,.slice (some ⟨O,0,none⟩) 1 1,.int .i64 3,.int .i64 0,.int .i64 0,.string ⟨#[]⟩,.slice none 0 0,.slice none 0 0] ?_ ?_
 ·simp only [List.map_toArray,List.map_cons,List.map_nil,f6]
  kernel_rfl
 exact h.put 7 (by decide) _ _ (Below.refl _ _) rfl
theorem kst8 (h:RI O B W3 listed a w) (hr:8∈Region.ready .any kops listed):wpOp Tryz.prog kops Q 8 (fun a' w'=>RI O B W3 (listed.setIfInBounds 8 true) a' w') a w:=by
 refine wpOp_of (o:=_) rfl rfl ?_
 refine wp_call' 24 #[.int .i64 0] (by kernel_rfl) (fun v w''=>v= .agg #[.int .i64 1,.int .i64 0]/\Below w.heap.size w w'') ((lawx_any 0 w).mono fun e w'' hh=>⟨_,hh.1,rfl,hh.2⟩) ?_
 rintro v w'' ⟨rfl,hb⟩
 exact h.put 8 (by decide) _ _ hb rfl
theorem kst9 (h:RI O B W3 listed a w) (hr:9∈Region.ready .any kops listed):wpOp Tryz.prog kops Q 9 (fun a' w'=>RI O B W3 (listed.setIfInBounds 9 true) a' w') a w:=by
 refine wpOp_of (o:=_) rfl rfl ?_
 refine wp_move _ rfl ?_
 exact h.put 9 (by decide) _ _ (Below.refl _ _) h.e2
theorem kst10 (h:RI O B W3 listed a w) (hr:10∈Region.ready .any kops listed):wpOp Tryz.prog kops Q 10 (fun a' w'=>RI O B W3 (listed.setIfInBounds 10 true) a' w') a w:=by
 refine wpOp_of (o:=_) rfl rfl ?_
 have f8:a.eval (.tmp 26)=_:=h.fc 8 (by decide) (kdep 8 hr (by kernel_rfl))
 have f9:a.eval (.tmp 27)=_:=h.fc 9 (by decide) (kdep 9 hr (by kernel_rfl))
 refine wp_build' _ _ rfl #[.int .i64 6,.int .i64 1,.int .i64 0,.slice (some ⟨O,0,none⟩) 1 1,.int .i64 0,.int .i64 0,.int .i64 0,.string ⟨#[]⟩,.slice none 0 0,.slice none 0 0] ?_ ?_
 ·simp only [List.map_toArray,List.map_cons,List.map_nil,f8,f9]
  kernel_rfl
 exact h.put 10 (by decide) _ _ (Below.refl _ _) rfl
theorem kst11 (h:RI O B W3 listed a w) (hr:11∈Region.ready .any kops listed):wpOp Tryz.prog kops Q 11 (fun a' w'=>RI O B W3 (listed.setIfInBounds 11 true) a' w') a w:=by
 refine wpOp_of (o:=_) rfl rfl ?_
 refine wp_load_row 47 (.tmp 1) rfl B h.e1 47 _ _ _ h.bk Tryz.underlying47 rfl (by kernel_rfl) ?_
 exact h.put 11 (by decide) _ _ (Below.refl _ _) rfl
theorem kst12 (h:RI O B W3 listed a w) (hr:12∈Region.ready .any kops listed):wpOp Tryz.prog kops Q 12 (fun a' w'=>RI O B W3 (listed.setIfInBounds 12 true) a' w') a w:=by
 refine wpOp_of (o:=_) rfl rfl ?_
 refine wp_load_row 47 (.tmp 1) rfl B h.e1 47 _ _ _ h.bk Tryz.underlying47 rfl (by kernel_rfl) ?_
 exact h.put 12 (by decide) _ _ (Below.refl _ _) rfl
theorem kst13 (h:RI O B W3 listed a w) (hr:13∈Region.ready .any kops listed):wpOp Tryz.prog kops Q 13 (fun a' w'=>RI O B W3 (listed.setIfInBounds 13 true) a' w') a w:=by
 refine wpOp_of (o:=_) rfl rfl ?_
 have f7:a.eval (.tmp 25)=_:=h.fc 7 (by decide) (kdep 7 hr (by kernel_rfl))
 have f10:a.eval (.tmp 28)=_:=h.fc 10 (by decide) (kdep 10 hr (by kernel_rfl))
 have f11:a.eval (.tmp 29)=_:=h.fc 11 (by decide) (kdep 11 hr (by kernel_rfl))
 have f12:a.eval (.tmp 30)=_:=h.fc 12 (by decide) (kdep 12 hr (by kernel_rfl))
 obtain⟨ie,hie,hz0,hz1,hz2⟩:=info_parts infoIns2
 refine wp_buildSlice _ _ _ _ rfl (kc1 O).toArray ie _ Tryz.underlying25 hie hz0 (by rw [hz1];decide) (by rw [hz1];decide) ?_ ?_
 ·rw [hz1]
  simp only [List.map_toArray,List.map_cons,List.map_nil,f7,f10,f11,f12]
  kernel_rfl
 have hba:Below w.heap.size w (w.alloc (.cells (kc1 O).toArray 47)):=(Below.refl _ _).alloc (Nat.le_refl _) _
 exact h.put 13 (by decide) _ _ hba ⟨w.heap.size,rfl,ks1 ((hba.block _ (lt_of_row h.one)).trans h.one) (heap_alloc_new _ _)⟩
theorem kst14 (h:RI O B W3 listed a w) (hr:14∈Region.ready .any kops listed):wpOp Tryz.prog kops Q 14 (fun a' w'=>RI O B W3 (listed.setIfInBounds 14 true) a' w') a w:=by
 refine wpOp_of (o:=_) rfl rfl ?_
 obtain⟨b,f,hs⟩:=h.fc 13 (by decide) (kdep 13 hr (by kernel_rfl))
 have f:a.eval (.tmp 31)=_:=f
 refine wp_call' 25 #[.slice (some ⟨b,0,none⟩) 4 4] (by
  rw [<-f]
  kernel_rfl) (fun v w''=>(KFct.un kl1 4).holds w'' v/\Below w.heap.size w w'') ((unit_any kl1 4 rfl _ 4 w hs (by unfold kl1;simp) (by decide)).mono fun e w'' hh=>by
  obtain⟨⟨fo,fc,co,cc,e1,hup⟩,hb⟩:=hh
  exact⟨_,e1,⟨fo,fc,co,cc,rfl,hup⟩,hb⟩) ?_
 rintro v w'' ⟨hv,hb⟩
 exact h.put 14 (by decide) _ _ hb hv
theorem kst15 (h:RI O B W3 listed a w) (hr:15∈Region.ready .any kops listed):wpOp Tryz.prog kops Q 15 (fun a' w'=>RI O B W3 (listed.setIfInBounds 15 true) a' w') a w:=by
 refine wpOp_of (o:=_) rfl rfl ?_
 refine wp_call' 26 #[.int .i64 0] (by kernel_rfl) (fun v w''=>v= .agg #[.int .i64 2,.int .i64 0]/\Below w.heap.size w w'') ((lawy_any 0 w).mono fun e w'' hh=>⟨_,hh.1,rfl,hh.2⟩) ?_
 rintro v w'' ⟨rfl,hb⟩
 exact h.put 15 (by decide) _ _ hb rfl
theorem kst16 (h:RI O B W3 listed a w) (hr:16∈Region.ready .any kops listed):wpOp Tryz.prog kops Q 16 (fun a' w'=>RI O B W3 (listed.setIfInBounds 16 true) a' w') a w:=by
 refine wpOp_of (o:=_) rfl rfl ?_
 refine wp_move _ rfl ?_
 exact h.put 16 (by decide) _ _ (Below.refl _ _) h.e2
theorem kst17 (h:RI O B W3 listed a w) (hr:17∈Region.ready .any kops listed):wpOp Tryz.prog kops Q 17 (fun a' w'=>RI O B W3 (listed.setIfInBounds 17 true) a' w') a w:=by
 refine wpOp_of (o:=_) rfl rfl ?_
 have f15:a.eval (.tmp 33)=_:=h.fc 15 (by decide) (kdep 15 hr (by kernel_rfl))
 have f16:a.eval (.tmp 34)=_:=h.fc 16 (by decide) (kdep 16 hr (by kernel_rfl))
 refine wp_build' _ _ rfl #[.int .i64 1,.int .i64 2,.int .i64 0,.slice (some ⟨O,0,none⟩) 1 1,.int .i64 0,.int .i64 0,.int .i64 0,.string ⟨#[]⟩,.slice none 0 0,.slice none 0 0] ?_ ?_
 ·simp only [List.map_toArray,List.map_cons,List.map_nil,f15,f16]
  kernel_rfl
 exact h.put 17 (by decide) _ _ (Below.refl _ _) rfl
theorem kst18 (h:RI O B W3 listed a w) (hr:18∈Region.ready .any kops listed):wpOp Tryz.prog kops Q 18 (fun a' w'=>RI O B W3 (listed.setIfInBounds 18 true) a' w') a w:=by
 refine wpOp_of (o:=_) rfl rfl ?_
 refine wp_load_row 47 (.tmp 1) rfl B h.e1 47 _ _ _ h.bk Tryz.underlying47 rfl (by kernel_rfl) ?_
 exact h.put 18 (by decide) _ _ (Below.refl _ _) rfl
theorem kst19 (h:RI O B W3 listed a w) (hr:19∈Region.ready .any kops listed):wpOp Tryz.prog kops Q 19 (fun a' w'=>RI O B W3 (listed.setIfInBounds 19 true) a' w') a w:=by
 refine wpOp_of (o:=_) rfl rfl ?_
 have f17:a.eval (.tmp 35)=_:=h.fc 17 (by decide) (kdep 17 hr (by kernel_rfl))
 have f18:a.eval (.tmp 36)=_:=h.fc 18 (by decide) (kdep 18 hr (by kernel_rfl))
 obtain⟨ie,hie,hz0,hz1,hz2⟩:=info_parts infoIns2
 refine wp_buildSlice _ _ _ _ rfl (kc2 O).toArray ie _ Tryz.underlying25 hie hz0 (by rw [hz1];decide) (by rw [hz1];decide) ?_ ?_
 ·rw [hz1]
  simp only [List.map_toArray,List.map_cons,List.map_nil,f17,f18]
  kernel_rfl
 have hba:Below w.heap.size w (w.alloc (.cells (kc2 O).toArray 47)):=(Below.refl _ _).alloc (Nat.le_refl _) _
 exact h.put 19 (by decide) _ _ hba ⟨w.heap.size,rfl,ks2 ((hba.block _ (lt_of_row h.one)).trans h.one) (heap_alloc_new _ _)⟩
theorem kst20 (h:RI O B W3 listed a w) (hr:20∈Region.ready .any kops listed):wpOp Tryz.prog kops Q 20 (fun a' w'=>RI O B W3 (listed.setIfInBounds 20 true) a' w') a w:=by
 refine wpOp_of (o:=_) rfl rfl ?_
 obtain⟨b,f,hs⟩:=h.fc 19 (by decide) (kdep 19 hr (by kernel_rfl))
 have f:a.eval (.tmp 37)=_:=f
 refine wp_call' 25 #[.slice (some ⟨b,0,none⟩) 2 2] (by
  rw [<-f]
  kernel_rfl) (fun v w''=>(KFct.un kl2 2).holds w'' v/\Below w.heap.size w w'') ((unit_any kl2 2 rfl _ 2 w hs (by unfold kl2;simp) (by decide)).mono fun e w'' hh=>by
  obtain⟨⟨fo,fc,co,cc,e1,hup⟩,hb⟩:=hh
  exact⟨_,e1,⟨fo,fc,co,cc,rfl,hup⟩,hb⟩) ?_
 rintro v w'' ⟨hv,hb⟩
 exact h.put 20 (by decide) _ _ hb hv
theorem kst21 (h:RI O B W3 listed a w) (hr:21∈Region.ready .any kops listed):wpOp Tryz.prog kops Q 21 (fun a' w'=>RI O B W3 (listed.setIfInBounds 21 true) a' w') a w:=by
 refine wpOp_of (o:=_) rfl rfl ?_
 refine wp_build' _ _ rfl #[.int .i64 24,.int .i64 0,.int .i64 0,.slice none 0 0,.int .i64 0,.int .i64 1,.int .i64 0,.string ⟨#[]⟩,.slice none 0 0,.slice none 0 0] ?_ ?_
 ·simp only [List.map_toArray,List.map_cons,List.map_nil]
  kernel_rfl
 exact h.put 21 (by decide) _ _ (Below.refl _ _) rfl
theorem kst22 (h:RI O B W3 listed a w) (hr:22∈Region.ready .any kops listed):wpOp Tryz.prog kops Q 22 (fun a' w'=>RI O B W3 (listed.setIfInBounds 22 true) a' w') a w:=by
 refine wpOp_of (o:=_) rfl rfl ?_
 refine wp_load_row 47 (.tmp 1) rfl B h.e1 47 _ _ _ h.bk Tryz.underlying47 rfl (by kernel_rfl) ?_
 exact h.put 22 (by decide) _ _ (Below.refl _ _) rfl
theorem kst23 (h:RI O B W3 listed a w) (hr:23∈Region.ready .any kops listed):wpOp Tryz.prog kops Q 23 (fun a' w'=>RI O B W3 (listed.setIfInBounds 23 true) a' w') a w:=by
 refine wpOp_of (o:=_) rfl rfl ?_
 have f21:a.eval (.tmp 39)=_:=h.fc 21 (by decide) (kdep 21 hr (by kernel_rfl))
 have f22:a.eval (.tmp 40)=_:=h.fc 22 (by decide) (kdep 22 hr (by kernel_rfl))
 obtain⟨ie,hie,hz0,hz1,hz2⟩:=info_parts infoIns2
 refine wp_buildSlice _ _ _ _ rfl (kc3).toArray ie _ Tryz.underlying25 hie hz0 (by rw [hz1];decide) (by rw [hz1];decide) ?_ ?_
 ·rw [hz1]
  simp only [List.map_toArray,List.map_cons,List.map_nil,f21,f22]
  kernel_rfl
 have hba:Below w.heap.size w (w.alloc (.cells (kc3).toArray 47)):=(Below.refl _ _).alloc (Nat.le_refl _) _
 exact h.put 23 (by decide) _ _ hba ⟨w.heap.size,rfl,ks3 (heap_alloc_new _ _)⟩
theorem kst24 (h:RI O B W3 listed a w) (hr:24∈Region.ready .any kops listed):wpOp Tryz.prog kops Q 24 (fun a' w'=>RI O B W3 (listed.setIfInBounds 24 true) a' w') a w:=by
 refine wpOp_of (o:=_) rfl rfl ?_
 obtain⟨b,f,hs⟩:=h.fc 23 (by decide) (kdep 23 hr (by kernel_rfl))
 have f:a.eval (.tmp 41)=_:=f
 refine wp_call' 25 #[.slice (some ⟨b,0,none⟩) 2 2] (by
  rw [<-f]
  kernel_rfl) (fun v w''=>(KFct.un kl3 2).holds w'' v/\Below w.heap.size w w'') ((unit_any kl3 2 rfl _ 2 w hs (by unfold kl3;simp) (by decide)).mono fun e w'' hh=>by
  obtain⟨⟨fo,fc,co,cc,e1,hup⟩,hb⟩:=hh
  exact⟨_,e1,⟨fo,fc,co,cc,rfl,hup⟩,hb⟩) ?_
 rintro v w'' ⟨hv,hb⟩
 exact h.put 24 (by decide) _ _ hb hv
theorem kst25 (h:RI O B W3 listed a w) (hr:25∈Region.ready .any kops listed):wpOp Tryz.prog kops Q 25 (fun a' w'=>RI O B W3 (listed.setIfInBounds 25 true) a' w') a w:=by
 refine wpOp_of (o:=_) rfl rfl ?_
 refine wp_build' _ _ rfl #[.int .i64 24,.int .i64 0,.int .i64 0,.slice none 0 0,.int .i64 0,.int .i64 1,.int .i64 0,.string ⟨#[]⟩,.slice none 0 0,.slice none 0 0] ?_ ?_
 ·simp only [List.map_toArray,List.map_cons,List.map_nil]
  kernel_rfl
 exact h.put 25 (by decide) _ _ (Below.refl _ _) rfl
theorem kst26 (h:RI O B W3 listed a w) (hr:26∈Region.ready .any kops listed):wpOp Tryz.prog kops Q 26 (fun a' w'=>RI O B W3 (listed.setIfInBounds 26 true) a' w') a w:=by
 refine wpOp_of (o:=_) rfl rfl ?_
 refine wp_build' _ _ rfl #[.int .i64 25,.int .i64 0,.int .i64 0,.slice none 0 0,.int .i64 0,.int .i64 0,.int .i64 0,.string ⟨#[]⟩,.slice none 0 0,.slice none 0 0] ?_ ?_
 ·simp only [List.map_toArray,List.map_cons,List.map_nil]
  kernel_rfl
 exact h.put 26 (by decide) _ _ (Below.refl _ _) rfl
theorem kst27 (h:RI O B W3 listed a w) (hr:27∈Region.ready .any kops listed):wpOp Tryz.prog kops Q 27 (fun a' w'=>RI O B W3 (listed.setIfInBounds 27 true) a' w') a w:=by
 refine wpOp_of (o:=_) rfl rfl ?_
 have f25:a.eval (.tmp 43)=_:=h.fc 25 (by decide) (kdep 25 hr (by kernel_rfl))
 have f26:a.eval (.tmp 44)=_:=h.fc 26 (by decide) (kdep 26 hr (by kernel_rfl))
 obtain⟨ie,hie,hz0,hz1,hz2⟩:=info_parts infoIns2
 refine wp_buildSlice _ _ _ _ rfl (kc4).toArray ie _ Tryz.underlying25 hie hz0 (by rw [hz1];decide) (by rw [hz1];decide) ?_ ?_
 ·rw [hz1]
  simp only [List.map_toArray,List.map_cons,List.map_nil,f25,f26]
  kernel_rfl
 have hba:Below w.heap.size w (w.alloc (.cells (kc4).toArray 47)):=(Below.refl _ _).alloc (Nat.le_refl _) _
 exact h.put 27 (by decide) _ _ hba ⟨w.heap.size,rfl,ks4 (heap_alloc_new _ _)⟩
theorem kst28 (h:RI O B W3 listed a w) (hr:28∈Region.ready .any kops listed):wpOp Tryz.prog kops Q 28 (fun a' w'=>RI O B W3 (listed.setIfInBounds 28 true) a' w') a w:=by
 refine wpOp_of (o:=_) rfl rfl ?_
 obtain⟨b,f,hs⟩:=h.fc 27 (by decide) (kdep 27 hr (by kernel_rfl))
 have f:a.eval (.tmp 45)=_:=f
 refine wp_call' 25 #[.slice (some ⟨b,0,none⟩) 2 2] (by
  rw [<-f]
  kernel_rfl) (fun v w''=>(KFct.un kl4 2).holds w'' v/\Below w.heap.size w w'') ((unit_any kl4 2 rfl _ 2 w hs (by unfold kl4;simp) (by decide)).mono fun e w'' hh=>by
  obtain⟨⟨fo,fc,co,cc,e1,hup⟩,hb⟩:=hh
  exact⟨_,e1,⟨fo,fc,co,cc,rfl,hup⟩,hb⟩) ?_
 rintro v w'' ⟨hv,hb⟩
 exact h.put 28 (by decide) _ _ hb hv
theorem kst29 (h:RI O B W3 listed a w) (hr:29∈Region.ready .any kops listed):wpOp Tryz.prog kops Q 29 (fun a' w'=>RI O B W3 (listed.setIfInBounds 29 true) a' w') a w:=by
 refine wpOp_of (o:=_) rfl rfl ?_
 refine wp_build' _ _ rfl #[.int .i64 28,.int .i64 0,.int .i64 0,.slice none 0 0,.int .i64 2,.int .i64 0,.int .i64 0,.string ⟨#[]⟩,.slice none 0 0,.slice none 0 0] ?_ ?_
 ·simp only [List.map_toArray,List.map_cons,List.map_nil]
  kernel_rfl
 exact h.put 29 (by decide) _ _ (Below.refl _ _) rfl
theorem kst30 (h:RI O B W3 listed a w) (hr:30∈Region.ready .any kops listed):wpOp Tryz.prog kops Q 30 (fun a' w'=>RI O B W3 (listed.setIfInBounds 30 true) a' w') a w:=by
 refine wpOp_of (o:=_) rfl rfl ?_
 refine wp_load_row 47 (.tmp 1) rfl B h.e1 47 _ _ _ h.bk Tryz.underlying47 rfl (by kernel_rfl) ?_
 exact h.put 30 (by decide) _ _ (Below.refl _ _) rfl
theorem kst31 (h:RI O B W3 listed a w) (hr:31∈Region.ready .any kops listed):wpOp Tryz.prog kops Q 31 (fun a' w'=>RI O B W3 (listed.setIfInBounds 31 true) a' w') a w:=by
 refine wpOp_of (o:=_) rfl rfl ?_
 refine wp_load_row 47 (.tmp 1) rfl B h.e1 47 _ _ _ h.bk Tryz.underlying47 rfl (by kernel_rfl) ?_
 exact h.put 31 (by decide) _ _ (Below.refl _ _) rfl
theorem kst32 (h:RI O B W3 listed a w) (hr:32∈Region.ready .any kops listed):wpOp Tryz.prog kops Q 32 (fun a' w'=>RI O B W3 (listed.setIfInBounds 32 true) a' w') a w:=by
 refine wpOp_of (o:=_) rfl rfl ?_
 have f29:a.eval (.tmp 47)=_:=h.fc 29 (by decide) (kdep 29 hr (by kernel_rfl))
 have f30:a.eval (.tmp 48)=_:=h.fc 30 (by decide) (kdep 30 hr (by kernel_rfl))
 have f31:a.eval (.tmp 49)=_:=h.fc 31 (by decide) (kdep 31 hr (by kernel_rfl))
 obtain⟨ie,hie,hz0,hz1,hz2⟩:=info_parts infoIns2
 refine wp_buildSlice _ _ _ _ rfl (kc5).toArray ie _ Tryz.underlying25 hie hz0 (by rw [hz1];decide) (by rw [hz1];decide) ?_ ?_
 ·rw [hz1]
  simp only [List.map_toArray,List.map_cons,List.map_nil,f29,f30,f31]
  kernel_rfl
 have hba:Below w.heap.size w (w.alloc (.cells (kc5).toArray 47)):=(Below.refl _ _).alloc (Nat.le_refl _) _
 exact h.put 32 (by decide) _ _ hba ⟨w.heap.size,rfl,ks5 (heap_alloc_new _ _)⟩
theorem kst33 (h:RI O B W3 listed a w) (hr:33∈Region.ready .any kops listed):wpOp Tryz.prog kops Q 33 (fun a' w'=>RI O B W3 (listed.setIfInBounds 33 true) a' w') a w:=by
 refine wpOp_of (o:=_) rfl rfl ?_
 obtain⟨b,f,hs⟩:=h.fc 32 (by decide) (kdep 32 hr (by kernel_rfl))
 have f:a.eval (.tmp 50)=_:=f
 refine wp_call' 25 #[.slice (some ⟨b,0,none⟩) 3 3] (by
  rw [<-f]
  kernel_rfl) (fun v w''=>(KFct.un kl5 3).holds w'' v/\Below w.heap.size w w'') ((unit_any kl5 3 rfl _ 3 w hs (by unfold kl5;simp) (by decide)).mono fun e w'' hh=>by
  obtain⟨⟨fo,fc,co,cc,e1,hup⟩,hb⟩:=hh
  exact⟨_,e1,⟨fo,fc,co,cc,rfl,hup⟩,hb⟩) ?_
 rintro v w'' ⟨hv,hb⟩
 exact h.put 33 (by decide) _ _ hb hv
theorem kst34 (h:RI O B W3 listed a w) (hr:34∈Region.ready .any kops listed):wpOp Tryz.prog kops Q 34 (fun a' w'=>RI O B W3 (listed.setIfInBounds 34 true) a' w') a w:=by
 refine wpOp_of (o:=_) rfl rfl ?_
 refine wp_build' _ _ rfl #[.int .i64 34,.int .i64 0,.int .i64 0,.slice none 0 0,.int .i64 1,.int .i64 0,.int .i64 0,.string ⟨#[]⟩,.slice none 0 0,.slice none 0 0] ?_ ?_
 ·simp only [List.map_toArray,List.map_cons,List.map_nil]
  kernel_rfl
 exact h.put 34 (by decide) _ _ (Below.refl _ _) rfl
theorem kst35 (h:RI O B W3 listed a w) (hr:35∈Region.ready .any kops listed):wpOp Tryz.prog kops Q 35 (fun a' w'=>RI O B W3 (listed.setIfInBounds 35 true) a' w') a w:=by
 refine wpOp_of (o:=_) rfl rfl ?_
 refine wp_load_row 47 (.tmp 1) rfl B h.e1 47 _ _ _ h.bk Tryz.underlying47 rfl (by kernel_rfl) ?_
 exact h.put 35 (by decide) _ _ (Below.refl _ _) rfl
theorem kst36 (h:RI O B W3 listed a w) (hr:36∈Region.ready .any kops listed):wpOp Tryz.prog kops Q 36 (fun a' w'=>RI O B W3 (listed.setIfInBounds 36 true) a' w') a w:=by
 refine wpOp_of (o:=_) rfl rfl ?_
 have f34:a.eval (.tmp 52)=_:=h.fc 34 (by decide) (kdep 34 hr (by kernel_rfl))
 have f35:a.eval (.tmp 53)=_:=h.fc 35 (by decide) (kdep 35 hr (by kernel_rfl))
 obtain⟨ie,hie,hz0,hz1,hz2⟩:=info_parts infoIns2
 refine wp_buildSlice _ _ _ _ rfl (kc6).toArray ie _ Tryz.underlying25 hie hz0 (by rw [hz1];decide) (by rw [hz1];decide) ?_ ?_
 ·rw [hz1]
  simp only [List.map_toArray,List.map_cons,List.map_nil,f34,f35]
  kernel_rfl
 have hba:Below w.heap.size w (w.alloc (.cells (kc6).toArray 47)):=(Below.refl _ _).alloc (Nat.le_refl _) _
 exact h.put 36 (by decide) _ _ hba ⟨w.heap.size,rfl,ks6 (heap_alloc_new _ _)⟩
theorem kst37 (h:RI O B W3 listed a w) (hr:37∈Region.ready .any kops listed):wpOp Tryz.prog kops Q 37 (fun a' w'=>RI O B W3 (listed.setIfInBounds 37 true) a' w') a w:=by
 refine wpOp_of (o:=_) rfl rfl ?_
 obtain⟨b,f,hs⟩:=h.fc 36 (by decide) (kdep 36 hr (by kernel_rfl))
 have f:a.eval (.tmp 54)=_:=f
 refine wp_call' 25 #[.slice (some ⟨b,0,none⟩) 2 2] (by
  rw [<-f]
  kernel_rfl) (fun v w''=>(KFct.un kl6 2).holds w'' v/\Below w.heap.size w w'') ((unit_any kl6 2 rfl _ 2 w hs (by unfold kl6;simp) (by decide)).mono fun e w'' hh=>by
  obtain⟨⟨fo,fc,co,cc,e1,hup⟩,hb⟩:=hh
  exact⟨_,e1,⟨fo,fc,co,cc,rfl,hup⟩,hb⟩) ?_
 rintro v w'' ⟨hv,hb⟩
 exact h.put 37 (by decide) _ _ hb hv
theorem kst38 (h:RI O B W3 listed a w) (hr:38∈Region.ready .any kops listed):wpOp Tryz.prog kops Q 38 (fun a' w'=>RI O B W3 (listed.setIfInBounds 38 true) a' w') a w:=by
 refine wpOp_of (o:=_) rfl rfl ?_
 refine wp_build' _ _ rfl #[.int .i64 36,.int .i64 0,.int .i64 0,.slice none 0 0,.int .i64 0,.int .i64 0,.int .i64 0,.string ⟨#[]⟩,.slice none 0 0,.slice none 0 0] ?_ ?_
 ·simp only [List.map_toArray,List.map_cons,List.map_nil]
  kernel_rfl
 exact h.put 38 (by decide) _ _ (Below.refl _ _) rfl
theorem kst39 (h:RI O B W3 listed a w) (hr:39∈Region.ready .any kops listed):wpOp Tryz.prog kops Q 39 (fun a' w'=>RI O B W3 (listed.setIfInBounds 39 true) a' w') a w:=by
 refine wpOp_of (o:=_) rfl rfl ?_
 refine wp_build' _ _ rfl #[.int .i64 37,.int .i64 0,.int .i64 0,.slice none 0 0,.int .i64 3,.int .i64 0,.int .i64 0,.string ⟨#[]⟩,.slice none 0 0,.slice none 0 0] ?_ ?_
 ·simp only [List.map_toArray,List.map_cons,List.map_nil]
  kernel_rfl
 exact h.put 39 (by decide) _ _ (Below.refl _ _) rfl
theorem kst40 (h:RI O B W3 listed a w) (hr:40∈Region.ready .any kops listed):wpOp Tryz.prog kops Q 40 (fun a' w'=>RI O B W3 (listed.setIfInBounds 40 true) a' w') a w:=by
 refine wpOp_of (o:=_) rfl rfl ?_
 refine wp_build' _ _ rfl #[.int .i64 39,.int .i64 0,.int .i64 0,.slice none 0 0,.int .i64 1,.int .i64 0,.int .i64 0,.string ⟨#[]⟩,.slice none 0 0,.slice none 0 0] ?_ ?_
 ·simp only [List.map_toArray,List.map_cons,List.map_nil]
  kernel_rfl
 exact h.put 40 (by decide) _ _ (Below.refl _ _) rfl
theorem kst41 (h:RI O B W3 listed a w) (hr:41∈Region.ready .any kops listed):wpOp Tryz.prog kops Q 41 (fun a' w'=>RI O B W3 (listed.setIfInBounds 41 true) a' w') a w:=by
 refine wpOp_of (o:=_) rfl rfl ?_
 refine wp_build' _ _ rfl #[.int .i64 40,.int .i64 0,.int .i64 0,.slice none 0 0,.int .i64 1,.int .i64 0,.int .i64 0,.string ⟨#[]⟩,.slice none 0 0,.slice none 0 0] ?_ ?_
 ·simp only [List.map_toArray,List.map_cons,List.map_nil]
  kernel_rfl
 exact h.put 41 (by decide) _ _ (Below.refl _ _) rfl
theorem kst42 (h:RI O B W3 listed a w) (hr:42∈Region.ready .any kops listed):wpOp Tryz.prog kops Q 42 (fun a' w'=>RI O B W3 (listed.setIfInBounds 42 true) a' w') a w:=by
 refine wpOp_of (o:=_) rfl rfl ?_
 refine wp_call' 24 #[.int .i64 0] (by kernel_rfl) (fun v w''=>v= .agg #[.int .i64 1,.int .i64 0]/\Below w.heap.size w w'') ((lawx_any 0 w).mono fun e w'' hh=>⟨_,hh.1,rfl,hh.2⟩) ?_
 rintro v w'' ⟨rfl,hb⟩
 exact h.put 42 (by decide) _ _ hb rfl
theorem kst43 (h:RI O B W3 listed a w) (hr:43∈Region.ready .any kops listed):wpOp Tryz.prog kops Q 43 (fun a' w'=>RI O B W3 (listed.setIfInBounds 43 true) a' w') a w:=by
 refine wpOp_of (o:=_) rfl rfl ?_
 have f42:a.eval (.tmp 60)=_:=h.fc 42 (by decide) (kdep 42 hr (by kernel_rfl))
 refine wp_build' _ _ rfl #[.int .i64 2,.int .i64 1,.int .i64 0,.slice none 0 0,.int .i64 0,.int .i64 0,.int .i64 0,.string ⟨#[]⟩,.slice none 0 0,.slice none 0 0] ?_ ?_
 ·simp only [List.map_toArray,List.map_cons,List.map_nil,f42]
  kernel_rfl
 exact h.put 43 (by decide) _ _ (Below.refl _ _) rfl
theorem kst44 (h:RI O B W3 listed a w) (hr:44∈Region.ready .any kops listed):wpOp Tryz.prog kops Q 44 (fun a' w'=>RI O B W3 (listed.setIfInBounds 44 true) a' w') a w:=by
 refine wpOp_of (o:=_) rfl rfl ?_
 refine wp_load_row 47 (.tmp 1) rfl B h.e1 47 _ _ _ h.bk Tryz.underlying47 rfl (by kernel_rfl) ?_
 exact h.put 44 (by decide) _ _ (Below.refl _ _) rfl
theorem kst45 (h:RI O B W3 listed a w) (hr:45∈Region.ready .any kops listed):wpOp Tryz.prog kops Q 45 (fun a' w'=>RI O B W3 (listed.setIfInBounds 45 true) a' w') a w:=by
 refine wpOp_of (o:=_) rfl rfl ?_
 have f38:a.eval (.tmp 56)=_:=h.fc 38 (by decide) (kdep 38 hr (by kernel_rfl))
 have f39:a.eval (.tmp 57)=_:=h.fc 39 (by decide) (kdep 39 hr (by kernel_rfl))
 have f40:a.eval (.tmp 58)=_:=h.fc 40 (by decide) (kdep 40 hr (by kernel_rfl))
 have f41:a.eval (.tmp 59)=_:=h.fc 41 (by decide) (kdep 41 hr (by kernel_rfl))
 have f43:a.eval (.tmp 61)=_:=h.fc 43 (by decide) (kdep 43 hr (by kernel_rfl))
 have f44:a.eval (.tmp 62)=_:=h.fc 44 (by decide) (kdep 44 hr (by kernel_rfl))
 obtain⟨ie,hie,hz0,hz1,hz2⟩:=info_parts infoIns2
 refine wp_buildSlice _ _ _ _ rfl (kc7).toArray ie _ Tryz.underlying25 hie hz0 (by rw [hz1];decide) (by rw [hz1];decide) ?_ ?_
 ·rw [hz1]
  simp only [List.map_toArray,List.map_cons,List.map_nil,f38,f39,f40,f41,f43,f44]
  kernel_rfl
 have hba:Below w.heap.size w (w.alloc (.cells (kc7).toArray 47)):=(Below.refl _ _).alloc (Nat.le_refl _) _
 exact h.put 45 (by decide) _ _ hba ⟨w.heap.size,rfl,ks7 (heap_alloc_new _ _)⟩
theorem kst46 (h:RI O B W3 listed a w) (hr:46∈Region.ready .any kops listed):wpOp Tryz.prog kops Q 46 (fun a' w'=>RI O B W3 (listed.setIfInBounds 46 true) a' w') a w:=by
 refine wpOp_of (o:=_) rfl rfl ?_
 obtain⟨b,f,hs⟩:=h.fc 45 (by decide) (kdep 45 hr (by kernel_rfl))
 have f:a.eval (.tmp 63)=_:=f
 refine wp_call' 25 #[.slice (some ⟨b,0,none⟩) 6 6] (by
  rw [<-f]
  kernel_rfl) (fun v w''=>(KFct.un kl7 6).holds w'' v/\Below w.heap.size w w'') ((unit_any kl7 6 rfl _ 6 w hs (by unfold kl7;simp) (by decide)).mono fun e w'' hh=>by
  obtain⟨⟨fo,fc,co,cc,e1,hup⟩,hb⟩:=hh
  exact⟨_,e1,⟨fo,fc,co,cc,rfl,hup⟩,hb⟩) ?_
 rintro v w'' ⟨hv,hb⟩
 exact h.put 46 (by decide) _ _ hb hv
theorem kst47 (h:RI O B W3 listed a w) (hr:47∈Region.ready .any kops listed):wpOp Tryz.prog kops Q 47 (fun a' w'=>RI O B W3 (listed.setIfInBounds 47 true) a' w') a w:=by
 refine wpOp_of (o:=_) rfl rfl ?_
 refine wp_build' _ _ rfl #[.int .i64 36,.int .i64 0,.int .i64 0,.slice none 0 0,.int .i64 0,.int .i64 0,.int .i64 0,.string ⟨#[]⟩,.slice none 0 0,.slice none 0 0] ?_ ?_
 ·simp only [List.map_toArray,List.map_cons,List.map_nil]
  kernel_rfl
 exact h.put 47 (by decide) _ _ (Below.refl _ _) rfl
theorem kst48 (h:RI O B W3 listed a w) (hr:48∈Region.ready .any kops listed):wpOp Tryz.prog kops Q 48 (fun a' w'=>RI O B W3 (listed.setIfInBounds 48 true) a' w') a w:=by
 refine wpOp_of (o:=_) rfl rfl ?_
 refine wp_build' _ _ rfl #[.int .i64 37,.int .i64 0,.int .i64 0,.slice none 0 0,.int .i64 3,.int .i64 0,.int .i64 0,.string ⟨#[]⟩,.slice none 0 0,.slice none 0 0] ?_ ?_
 ·simp only [List.map_toArray,List.map_cons,List.map_nil]
  kernel_rfl
 exact h.put 48 (by decide) _ _ (Below.refl _ _) rfl
theorem kst49 (h:RI O B W3 listed a w) (hr:49∈Region.ready .any kops listed):wpOp Tryz.prog kops Q 49 (fun a' w'=>RI O B W3 (listed.setIfInBounds 49 true) a' w') a w:=by
 refine wpOp_of (o:=_) rfl rfl ?_
 refine wp_load_row 47 (.tmp 1) rfl B h.e1 47 _ _ _ h.bk Tryz.underlying47 rfl (by kernel_rfl) ?_
 exact h.put 49 (by decide) _ _ (Below.refl _ _) rfl
theorem kst50 (h:RI O B W3 listed a w) (hr:50∈Region.ready .any kops listed):wpOp Tryz.prog kops Q 50 (fun a' w'=>RI O B W3 (listed.setIfInBounds 50 true) a' w') a w:=by
 refine wpOp_of (o:=_) rfl rfl ?_
 refine wp_build' _ _ rfl #[.int .i64 40,.int .i64 0,.int .i64 0,.slice none 0 0,.int .i64 1,.int .i64 0,.int .i64 0,.string ⟨#[]⟩,.slice none 0 0,.slice none 0 0] ?_ ?_
 ·simp only [List.map_toArray,List.map_cons,List.map_nil]
  kernel_rfl
 exact h.put 50 (by decide) _ _ (Below.refl _ _) rfl
theorem kst51 (h:RI O B W3 listed a w) (hr:51∈Region.ready .any kops listed):wpOp Tryz.prog kops Q 51 (fun a' w'=>RI O B W3 (listed.setIfInBounds 51 true) a' w') a w:=by
 refine wpOp_of (o:=_) rfl rfl ?_
 refine wp_load_row 47 (.tmp 1) rfl B h.e1 47 _ _ _ h.bk Tryz.underlying47 rfl (by kernel_rfl) ?_
 exact h.put 51 (by decide) _ _ (Below.refl _ _) rfl
theorem kst52 (h:RI O B W3 listed a w) (hr:52∈Region.ready .any kops listed):wpOp Tryz.prog kops Q 52 (fun a' w'=>RI O B W3 (listed.setIfInBounds 52 true) a' w') a w:=by
 refine wpOp_of (o:=_) rfl rfl ?_
 have f47:a.eval (.tmp 65)=_:=h.fc 47 (by decide) (kdep 47 hr (by kernel_rfl))
 have f48:a.eval (.tmp 66)=_:=h.fc 48 (by decide) (kdep 48 hr (by kernel_rfl))
 have f49:a.eval (.tmp 67)=_:=h.fc 49 (by decide) (kdep 49 hr (by kernel_rfl))
 have f50:a.eval (.tmp 68)=_:=h.fc 50 (by decide) (kdep 50 hr (by kernel_rfl))
 have f51:a.eval (.tmp 69)=_:=h.fc 51 (by decide) (kdep 51 hr (by kernel_rfl))
 obtain⟨ie,hie,hz0,hz1,hz2⟩:=info_parts infoIns2
 refine wp_buildSlice _ _ _ _ rfl (kc8).toArray ie _ Tryz.underlying25 hie hz0 (by rw [hz1];decide) (by rw [hz1];decide) ?_ ?_
 ·rw [hz1]
  simp only [List.map_toArray,List.map_cons,List.map_nil,f47,f48,f49,f50,f51]
  kernel_rfl
 have hba:Below w.heap.size w (w.alloc (.cells (kc8).toArray 47)):=(Below.refl _ _).alloc (Nat.le_refl _) _
 exact h.put 52 (by decide) _ _ hba ⟨w.heap.size,rfl,ks8 (heap_alloc_new _ _)⟩
theorem kst53 (h:RI O B W3 listed a w) (hr:53∈Region.ready .any kops listed):wpOp Tryz.prog kops Q 53 (fun a' w'=>RI O B W3 (listed.setIfInBounds 53 true) a' w') a w:=by
 refine wpOp_of (o:=_) rfl rfl ?_
 obtain⟨b,f,hs⟩:=h.fc 52 (by decide) (kdep 52 hr (by kernel_rfl))
 have f:a.eval (.tmp 70)=_:=f
 refine wp_call' 25 #[.slice (some ⟨b,0,none⟩) 5 5] (by
  rw [<-f]
  kernel_rfl) (fun v w''=>(KFct.un kl8 5).holds w'' v/\Below w.heap.size w w'') ((unit_any kl8 5 rfl _ 5 w hs (by unfold kl8;simp) (by decide)).mono fun e w'' hh=>by
  obtain⟨⟨fo,fc,co,cc,e1,hup⟩,hb⟩:=hh
  exact⟨_,e1,⟨fo,fc,co,cc,rfl,hup⟩,hb⟩) ?_
 rintro v w'' ⟨hv,hb⟩
 exact h.put 53 (by decide) _ _ hb hv
theorem kst54 (h:RI O B W3 listed a w) (hr:54∈Region.ready .any kops listed):wpOp Tryz.prog kops Q 54 (fun a' w'=>RI O B W3 (listed.setIfInBounds 54 true) a' w') a w:=by
 refine wpOp_of (o:=_) rfl rfl ?_
 refine wp_build' _ _ rfl #[.int .i64 99,.int .i64 0,.int .i64 0,.slice none 0 0,.int .i64 0,.int .i64 0,.int .i64 0,.string ⟨#[]⟩,.slice none 0 0,.slice none 0 0] ?_ ?_
 ·simp only [List.map_toArray,List.map_cons,List.map_nil]
  kernel_rfl
 exact h.put 54 (by decide) _ _ (Below.refl _ _) rfl
theorem kst55 (h:RI O B W3 listed a w) (hr:55∈Region.ready .any kops listed):wpOp Tryz.prog kops Q 55 (fun a' w'=>RI O B W3 (listed.setIfInBounds 55 true) a' w') a w:=by
 refine wpOp_of (o:=_) rfl rfl ?_
 refine wp_load_row 47 (.tmp 1) rfl B h.e1 47 _ _ _ h.bk Tryz.underlying47 rfl (by kernel_rfl) ?_
 exact h.put 55 (by decide) _ _ (Below.refl _ _) rfl
theorem kst56 (h:RI O B W3 listed a w) (hr:56∈Region.ready .any kops listed):wpOp Tryz.prog kops Q 56 (fun a' w'=>RI O B W3 (listed.setIfInBounds 56 true) a' w') a w:=by
 refine wpOp_of (o:=_) rfl rfl ?_
 have f54:a.eval (.tmp 72)=_:=h.fc 54 (by decide) (kdep 54 hr (by kernel_rfl))
 have f55:a.eval (.tmp 73)=_:=h.fc 55 (by decide) (kdep 55 hr (by kernel_rfl))
 obtain⟨ie,hie,hz0,hz1,hz2⟩:=info_parts infoIns2
 refine wp_buildSlice _ _ _ _ rfl (kc9).toArray ie _ Tryz.underlying25 hie hz0 (by rw [hz1];decide) (by rw [hz1];decide) ?_ ?_
 ·rw [hz1]
  simp only [List.map_toArray,List.map_cons,List.map_nil,f54,f55]
  kernel_rfl
 have hba:Below w.heap.size w (w.alloc (.cells (kc9).toArray 47)):=(Below.refl _ _).alloc (Nat.le_refl _) _
 exact h.put 56 (by decide) _ _ hba ⟨w.heap.size,rfl,ks9 (heap_alloc_new _ _)⟩
theorem kst57 (h:RI O B W3 listed a w) (hr:57∈Region.ready .any kops listed):wpOp Tryz.prog kops Q 57 (fun a' w'=>RI O B W3 (listed.setIfInBounds 57 true) a' w') a w:=by
 refine wpOp_of (o:=_) rfl rfl ?_
 obtain⟨b,f,hs⟩:=h.fc 56 (by decide) (kdep 56 hr (by kernel_rfl))
 have f:a.eval (.tmp 74)=_:=f
 refine wp_call' 25 #[.slice (some ⟨b,0,none⟩) 2 2] (by
  rw [<-f]
  kernel_rfl) (fun v w''=>(KFct.un kl9 2).holds w'' v/\Below w.heap.size w w'') ((unit_any kl9 2 rfl _ 2 w hs (by unfold kl9;simp) (by decide)).mono fun e w'' hh=>by
  obtain⟨⟨fo,fc,co,cc,e1,hup⟩,hb⟩:=hh
  exact⟨_,e1,⟨fo,fc,co,cc,rfl,hup⟩,hb⟩) ?_
 rintro v w'' ⟨hv,hb⟩
 exact h.put 57 (by decide) _ _ hb hv
theorem kst58 (h:RI O B W3 listed a w) (hr:58∈Region.ready .any kops listed):wpOp Tryz.prog kops Q 58 (fun a' w'=>RI O B W3 (listed.setIfInBounds 58 true) a' w') a w:=by
 refine wpOp_of (o:=_) rfl rfl ?_
 refine wp_build' _ _ rfl #[.int .i64 28,.int .i64 0,.int .i64 0,.slice none 0 0,.int .i64 2,.int .i64 0,.int .i64 0,.string ⟨#[]⟩,.slice none 0 0,.slice none 0 0] ?_ ?_
 ·simp only [List.map_toArray,List.map_cons,List.map_nil]
  kernel_rfl
 exact h.put 58 (by decide) _ _ (Below.refl _ _) rfl
theorem kst59 (h:RI O B W3 listed a w) (hr:59∈Region.ready .any kops listed):wpOp Tryz.prog kops Q 59 (fun a' w'=>RI O B W3 (listed.setIfInBounds 59 true) a' w') a w:=by
 refine wpOp_of (o:=_) rfl rfl ?_
 refine wp_build' _ _ rfl #[.int .i64 8,.int .i64 0,.int .i64 0,.slice none 0 0,.int .i64 3,.int .i64 0,.int .i64 0,.string ⟨#[]⟩,.slice none 0 0,.slice none 0 0] ?_ ?_
 ·simp only [List.map_toArray,List.map_cons,List.map_nil]
  kernel_rfl
 exact h.put 59 (by decide) _ _ (Below.refl _ _) rfl
theorem kst60 (h:RI O B W3 listed a w) (hr:60∈Region.ready .any kops listed):wpOp Tryz.prog kops Q 60 (fun a' w'=>RI O B W3 (listed.setIfInBounds 60 true) a' w') a w:=by
 refine wpOp_of (o:=_) rfl rfl ?_
 refine wp_load_row 47 (.tmp 1) rfl B h.e1 47 _ _ _ h.bk Tryz.underlying47 rfl (by kernel_rfl) ?_
 exact h.put 60 (by decide) _ _ (Below.refl _ _) rfl
theorem kst61 (h:RI O B W3 listed a w) (hr:61∈Region.ready .any kops listed):wpOp Tryz.prog kops Q 61 (fun a' w'=>RI O B W3 (listed.setIfInBounds 61 true) a' w') a w:=by
 refine wpOp_of (o:=_) rfl rfl ?_
 refine wp_call' 24 #[.int .i64 0] (by kernel_rfl) (fun v w''=>v= .agg #[.int .i64 1,.int .i64 0]/\Below w.heap.size w w'') ((lawx_any 0 w).mono fun e w'' hh=>⟨_,hh.1,rfl,hh.2⟩) ?_
 rintro v w'' ⟨rfl,hb⟩
 exact h.put 61 (by decide) _ _ hb rfl
theorem kst62 (h:RI O B W3 listed a w) (hr:62∈Region.ready .any kops listed):wpOp Tryz.prog kops Q 62 (fun a' w'=>RI O B W3 (listed.setIfInBounds 62 true) a' w') a w:=by
 refine wpOp_of (o:=_) rfl rfl ?_
 have f61:a.eval (.tmp 79)=_:=h.fc 61 (by decide) (kdep 61 hr (by kernel_rfl))
 refine wp_build' _ _ rfl #[.int .i64 2,.int .i64 1,.int .i64 0,.slice none 0 0,.int .i64 0,.int .i64 0,.int .i64 0,.string ⟨#[]⟩,.slice none 0 0,.slice none 0 0] ?_ ?_
 ·simp only [List.map_toArray,List.map_cons,List.map_nil,f61]
  kernel_rfl
 exact h.put 62 (by decide) _ _ (Below.refl _ _) rfl
theorem kst63 (h:RI O B W3 listed a w) (hr:63∈Region.ready .any kops listed):wpOp Tryz.prog kops Q 63 (fun a' w'=>RI O B W3 (listed.setIfInBounds 63 true) a' w') a w:=by
 refine wpOp_of (o:=_) rfl rfl ?_
 refine wp_build' _ _ rfl #[.int .i64 29,.int .i64 0,.int .i64 0,.slice none 0 0,.int .i64 0,.int .i64 0,.int .i64 0,.string ⟨#[]⟩,.slice none 0 0,.slice none 0 0] ?_ ?_
 ·simp only [List.map_toArray,List.map_cons,List.map_nil]
  kernel_rfl
 exact h.put 63 (by decide) _ _ (Below.refl _ _) rfl
theorem kst64 (h:RI O B W3 listed a w) (hr:64∈Region.ready .any kops listed):wpOp Tryz.prog kops Q 64 (fun a' w'=>RI O B W3 (listed.setIfInBounds 64 true) a' w') a w:=by
 refine wpOp_of (o:=_) rfl rfl ?_
 refine wp_load_row 47 (.tmp 1) rfl B h.e1 47 _ _ _ h.bk Tryz.underlying47 rfl (by kernel_rfl) ?_
 exact h.put 64 (by decide) _ _ (Below.refl _ _) rfl
theorem kst65 (h:RI O B W3 listed a w) (hr:65∈Region.ready .any kops listed):wpOp Tryz.prog kops Q 65 (fun a' w'=>RI O B W3 (listed.setIfInBounds 65 true) a' w') a w:=by
 refine wpOp_of (o:=_) rfl rfl ?_
 have f58:a.eval (.tmp 76)=_:=h.fc 58 (by decide) (kdep 58 hr (by kernel_rfl))
 have f59:a.eval (.tmp 77)=_:=h.fc 59 (by decide) (kdep 59 hr (by kernel_rfl))
 have f60:a.eval (.tmp 78)=_:=h.fc 60 (by decide) (kdep 60 hr (by kernel_rfl))
 have f62:a.eval (.tmp 80)=_:=h.fc 62 (by decide) (kdep 62 hr (by kernel_rfl))
 have f63:a.eval (.tmp 81)=_:=h.fc 63 (by decide) (kdep 63 hr (by kernel_rfl))
 have f64:a.eval (.tmp 82)=_:=h.fc 64 (by decide) (kdep 64 hr (by kernel_rfl))
 obtain⟨ie,hie,hz0,hz1,hz2⟩:=info_parts infoIns2
 refine wp_buildSlice _ _ _ _ rfl (kc10).toArray ie _ Tryz.underlying25 hie hz0 (by rw [hz1];decide) (by rw [hz1];decide) ?_ ?_
 ·rw [hz1]
  simp only [List.map_toArray,List.map_cons,List.map_nil,f58,f59,f60,f62,f63,f64]
  kernel_rfl
 have hba:Below w.heap.size w (w.alloc (.cells (kc10).toArray 47)):=(Below.refl _ _).alloc (Nat.le_refl _) _
 exact h.put 65 (by decide) _ _ hba ⟨w.heap.size,rfl,ks10 (heap_alloc_new _ _)⟩
theorem kst66 (h:RI O B W3 listed a w) (hr:66∈Region.ready .any kops listed):wpOp Tryz.prog kops Q 66 (fun a' w'=>RI O B W3 (listed.setIfInBounds 66 true) a' w') a w:=by
 refine wpOp_of (o:=_) rfl rfl ?_
 obtain⟨b,f,hs⟩:=h.fc 65 (by decide) (kdep 65 hr (by kernel_rfl))
 have f:a.eval (.tmp 83)=_:=f
 refine wp_call' 25 #[.slice (some ⟨b,0,none⟩) 6 6] (by
  rw [<-f]
  kernel_rfl) (fun v w''=>(KFct.un kl10 6).holds w'' v/\Below w.heap.size w w'') ((unit_any kl10 6 rfl _ 6 w hs (by unfold kl10;simp) (by decide)).mono fun e w'' hh=>by
  obtain⟨⟨fo,fc,co,cc,e1,hup⟩,hb⟩:=hh
  exact⟨_,e1,⟨fo,fc,co,cc,rfl,hup⟩,hb⟩) ?_
 rintro v w'' ⟨hv,hb⟩
 exact h.put 66 (by decide) _ _ hb hv
theorem kst67 (h:RI O B W3 listed a w) (hr:67∈Region.ready .any kops listed):wpOp Tryz.prog kops Q 67 (fun a' w'=>RI O B W3 (listed.setIfInBounds 67 true) a' w') a w:=by
 refine wpOp_of (o:=_) rfl rfl ?_
 refine wp_call' 27 #[] (by kernel_rfl) (fun v w''=>(KFct.un kl11 10).holds w'' v/\Below w.heap.size w w'') ((crossed_any w).mono fun e w'' hh=>by
  obtain⟨⟨fo,fc,co,cc,e1,hup⟩,hb⟩:=hh
  exact⟨_,e1,⟨fo,fc,co,cc,rfl,hup⟩,hb⟩) ?_
 rintro v w'' ⟨hv,hb⟩
 exact h.put 67 (by decide) _ _ hb hv
theorem kst68 (h:RI O B W3 listed a w) (hr:68∈Region.ready .any kops listed):wpOp Tryz.prog kops Q 68 (fun a' w'=>RI O B W3 (listed.setIfInBounds 68 true) a' w') a w:=by
 refine wpOp_of (o:=_) rfl rfl ?_
 obtain⟨fo0,fc0,co0,cc0,f0,u0⟩:=h.fc 5 (by decide) (kdep 5 hr (by kernel_rfl))
 have f0:a.eval (.tmp 23)=_:=f0
 obtain⟨fo1,fc1,co1,cc1,f1,u1⟩:=h.fc 14 (by decide) (kdep 14 hr (by kernel_rfl))
 have f1:a.eval (.tmp 32)=_:=f1
 obtain⟨fo2,fc2,co2,cc2,f2,u2⟩:=h.fc 20 (by decide) (kdep 20 hr (by kernel_rfl))
 have f2:a.eval (.tmp 38)=_:=f2
 obtain⟨fo3,fc3,co3,cc3,f3,u3⟩:=h.fc 24 (by decide) (kdep 24 hr (by kernel_rfl))
 have f3:a.eval (.tmp 42)=_:=f3
 obtain⟨fo4,fc4,co4,cc4,f4,u4⟩:=h.fc 28 (by decide) (kdep 28 hr (by kernel_rfl))
 have f4:a.eval (.tmp 46)=_:=f4
 obtain⟨fo5,fc5,co5,cc5,f5,u5⟩:=h.fc 33 (by decide) (kdep 33 hr (by kernel_rfl))
 have f5:a.eval (.tmp 51)=_:=f5
 obtain⟨fo6,fc6,co6,cc6,f6,u6⟩:=h.fc 37 (by decide) (kdep 37 hr (by kernel_rfl))
 have f6:a.eval (.tmp 55)=_:=f6
 obtain⟨fo7,fc7,co7,cc7,f7,u7⟩:=h.fc 46 (by decide) (kdep 46 hr (by kernel_rfl))
 have f7:a.eval (.tmp 64)=_:=f7
 obtain⟨fo8,fc8,co8,cc8,f8,u8⟩:=h.fc 53 (by decide) (kdep 53 hr (by kernel_rfl))
 have f8:a.eval (.tmp 71)=_:=f8
 obtain⟨fo9,fc9,co9,cc9,f9,u9⟩:=h.fc 57 (by decide) (kdep 57 hr (by kernel_rfl))
 have f9:a.eval (.tmp 75)=_:=f9
 obtain⟨fo10,fc10,co10,cc10,f10,u10⟩:=h.fc 66 (by decide) (kdep 66 hr (by kernel_rfl))
 have f10:a.eval (.tmp 84)=_:=f10
 obtain⟨fo11,fc11,co11,cc11,f11,u11⟩:=h.fc 67 (by decide) (kdep 67 hr (by kernel_rfl))
 have f11:a.eval (.tmp 85)=_:=f11
 obtain⟨L,hL⟩: ∃L:List Value,L= [.string strM,.int .i64 1,.slice none 0 0,.slice fo0 1 fc0,.slice none 0 0,.slice co0 2 cc0,.string strM,.int .i64 1,.slice none 0 0,.slice fo1 1 fc1,.slice none 0 0,.slice co1 4 cc1,.string strM,.int .i64 1,.slice none 0 0,.slice fo2 1 fc2,.slice none 0 0,.slice co2 2 cc2,.string strM,.int .i64 1,.slice none 0 0,.slice fo3 1 fc3,.slice none 0 0,.slice co3 2 cc3,.string strM,.int .i64 1,.slice none 0 0,.slice fo4 1 fc4,.slice none 0 0,.slice co4 2 cc4,.string strM,.int .i64 1,.slice none 0 0,.slice fo5 1 fc5,.slice none 0 0,.slice co5 3 cc5,.string strM,.int .i64 1,.slice none 0 0,.slice fo6 1 fc6,.slice none 0 0,.slice co6 2 cc6,.string strM,.int .i64 1,.slice none 0 0,.slice fo7 1 fc7,.slice none 0 0,.slice co7 6 cc7,.string strM,.int .i64 1,.slice none 0 0,.slice fo8 1 fc8,.slice none 0 0,.slice co8 5 cc8,.string strM,.int .i64 1,.slice none 0 0,.slice fo9 1 fc9,.slice none 0 0,.slice co9 2 cc9,.string strM,.int .i64 1,.slice none 0 0,.slice fo10 1 fc10,.slice none 0 0,.slice co10 6 cc10,.string strM,.int .i64 1,.slice none 0 0,.slice fo11 1 fc11,.slice none 0 0,.slice co11 10 cc11]:=⟨_,rfl⟩
 obtain⟨ie,hie,hz0,hz1⟩:=info_two infoUnit2
 refine wp_buildSlice _ _ _ _ rfl L.toArray ie _ Tryz.underlying60 hie hz0 (by rw [hz1];decide) (by rw [hz1];decide) ?_ ?_
 ·rw [hz1,hL]
  simp only [List.map_toArray,List.map_cons,List.map_nil,f0,f1,f2,f3,f4,f5,f6,f7,f8,f9,f10,f11]
  kernel_rfl
 have hba:Below w.heap.size w (w.alloc (.cells L.toArray 27)):=(Below.refl _ _).alloc (Nat.le_refl _) _
 have hrow:=heap_alloc_new w (.cells L.toArray 27)
 have c: ∀(j:Nat) (v:Value),L[j]?=some v->(w.alloc (.cells L.toArray 27)).cell? ⟨w.heap.size,j,none⟩=some v:=fun j v hj=>by
  rw [cell_of_row _ _ _ _ _ _ hrow,List.getElem?_toArray];exact hj
 refine h.put 68 (by decide) _ _ hba ⟨w.heap.size,rfl,lt_of_row hrow,fun k hk=>?_⟩
 rcases(show k=0∨k=1∨k=2∨k=3∨k=4∨k=5∨k=6∨k=7∨k=8∨k=9∨k=10∨k=11 by omega)with rfl|rfl|rfl|rfl|rfl|rfl|rfl|rfl|rfl|rfl|rfl|rfl
 ·exact⟨⟨kl0,2,fo0,co0,fc0,cc0,0,180,rfl,c _ _ (by rw [hL];rfl),c _ _ (by rw [hL];rfl),c _ _ (by rw [hL];rfl),c _ _ (by rw [hL];rfl),c _ _ (by rw [hL];rfl),c _ _ (by rw [hL];rfl),u0.below hba,rfl,kw0,rfl,rfl⟩⟩
 ·exact⟨⟨kl1,4,fo1,co1,fc1,cc1,0,0,rfl,c _ _ (by rw [hL];rfl),c _ _ (by rw [hL];rfl),c _ _ (by rw [hL];rfl),c _ _ (by rw [hL];rfl),c _ _ (by rw [hL];rfl),c _ _ (by rw [hL];rfl),u1.below hba,rfl,kw1,rfl,rfl⟩⟩
 ·exact⟨⟨kl2,2,fo2,co2,fc2,cc2,0,181,rfl,c _ _ (by rw [hL];rfl),c _ _ (by rw [hL];rfl),c _ _ (by rw [hL];rfl),c _ _ (by rw [hL];rfl),c _ _ (by rw [hL];rfl),c _ _ (by rw [hL];rfl),u2.below hba,rfl,kw2,rfl,rfl⟩⟩
 ·exact⟨⟨kl3,2,fo3,co3,fc3,cc3,1,181,rfl,c _ _ (by rw [hL];rfl),c _ _ (by rw [hL];rfl),c _ _ (by rw [hL];rfl),c _ _ (by rw [hL];rfl),c _ _ (by rw [hL];rfl),c _ _ (by rw [hL];rfl),u3.below hba,rfl,kw3,rfl,rfl⟩⟩
 ·exact⟨⟨kl4,2,fo4,co4,fc4,cc4,1,185,rfl,c _ _ (by rw [hL];rfl),c _ _ (by rw [hL];rfl),c _ _ (by rw [hL];rfl),c _ _ (by rw [hL];rfl),c _ _ (by rw [hL];rfl),c _ _ (by rw [hL];rfl),u4.below hba,rfl,kw4,rfl,rfl⟩⟩
 ·exact⟨⟨kl5,3,fo5,co5,fc5,cc5,1,182,rfl,c _ _ (by rw [hL];rfl),c _ _ (by rw [hL];rfl),c _ _ (by rw [hL];rfl),c _ _ (by rw [hL];rfl),c _ _ (by rw [hL];rfl),c _ _ (by rw [hL];rfl),u5.below hba,rfl,kw5,rfl,rfl⟩⟩
 ·exact⟨⟨kl6,2,fo6,co6,fc6,cc6,0,183,rfl,c _ _ (by rw [hL];rfl),c _ _ (by rw [hL];rfl),c _ _ (by rw [hL];rfl),c _ _ (by rw [hL];rfl),c _ _ (by rw [hL];rfl),c _ _ (by rw [hL];rfl),u6.below hba,rfl,kw6,rfl,rfl⟩⟩
 ·exact⟨⟨kl7,6,fo7,co7,fc7,cc7,0,0,rfl,c _ _ (by rw [hL];rfl),c _ _ (by rw [hL];rfl),c _ _ (by rw [hL];rfl),c _ _ (by rw [hL];rfl),c _ _ (by rw [hL];rfl),c _ _ (by rw [hL];rfl),u7.below hba,rfl,kw7,rfl,rfl⟩⟩
 ·exact⟨⟨kl8,5,fo8,co8,fc8,cc8,2,184,rfl,c _ _ (by rw [hL];rfl),c _ _ (by rw [hL];rfl),c _ _ (by rw [hL];rfl),c _ _ (by rw [hL];rfl),c _ _ (by rw [hL];rfl),c _ _ (by rw [hL];rfl),u8.below hba,rfl,kw8,rfl,rfl⟩⟩
 ·exact⟨⟨kl9,2,fo9,co9,fc9,cc9,0,6,rfl,c _ _ (by rw [hL];rfl),c _ _ (by rw [hL];rfl),c _ _ (by rw [hL];rfl),c _ _ (by rw [hL];rfl),c _ _ (by rw [hL];rfl),c _ _ (by rw [hL];rfl),u9.below hba,rfl,kw9,rfl,rfl⟩⟩
 ·exact⟨⟨kl10,6,fo10,co10,fc10,cc10,3,182,rfl,c _ _ (by rw [hL];rfl),c _ _ (by rw [hL];rfl),c _ _ (by rw [hL];rfl),c _ _ (by rw [hL];rfl),c _ _ (by rw [hL];rfl),c _ _ (by rw [hL];rfl),u10.below hba,rfl,kw10,rfl,rfl⟩⟩
 ·exact⟨⟨kl11,10,fo11,co11,fc11,cc11,6,184,rfl,c _ _ (by rw [hL];rfl),c _ _ (by rw [hL];rfl),c _ _ (by rw [hL];rfl),c _ _ (by rw [hL];rfl),c _ _ (by rw [hL];rfl),c _ _ (by rw [hL];rfl),u11.below hba,rfl,kw11,rfl,rfl⟩⟩
theorem kst69 (h:RI O B W3 listed a w) (hr:69∈Region.ready .any kops listed):wpOp Tryz.prog kops Q 69 (fun a' w'=>RI O B W3 (listed.setIfInBounds 69 true) a' w') a w:=by
 refine wpOp_of (o:=_) rfl rfl ?_
 have f:=h.fc 68 (by decide) (kdep 68 hr (by kernel_rfl))
 refine wp_assign _ rfl ?_
 exact h.put 69 (by decide) _ _ (Below.refl _ _) f
theorem kstep (i:Nat) (hi:i<70) (h:RI O B W3 listed a w) (hr:i∈Region.ready .any kops listed):wpOp Tryz.prog kops Q i (fun a' w'=>RI O B W3 (listed.setIfInBounds i true) a' w') a w:=
 match i,hi,hr with
 |0,_,hr=>kst0 h hr
 |1,_,hr=>kst1 h hr
 |2,_,hr=>kst2 h hr
 |3,_,hr=>kst3 h hr
 |4,_,hr=>kst4 h hr
 |5,_,hr=>kst5 h hr
 |6,_,hr=>kst6 h hr
 |7,_,hr=>kst7 h hr
 |8,_,hr=>kst8 h hr
 |9,_,hr=>kst9 h hr
 |10,_,hr=>kst10 h hr
 |11,_,hr=>kst11 h hr
 |12,_,hr=>kst12 h hr
 |13,_,hr=>kst13 h hr
 |14,_,hr=>kst14 h hr
 |15,_,hr=>kst15 h hr
 |16,_,hr=>kst16 h hr
 |17,_,hr=>kst17 h hr
 |18,_,hr=>kst18 h hr
 |19,_,hr=>kst19 h hr
 |20,_,hr=>kst20 h hr
 |21,_,hr=>kst21 h hr
 |22,_,hr=>kst22 h hr
 |23,_,hr=>kst23 h hr
 |24,_,hr=>kst24 h hr
 |25,_,hr=>kst25 h hr
 |26,_,hr=>kst26 h hr
 |27,_,hr=>kst27 h hr
 |28,_,hr=>kst28 h hr
 |29,_,hr=>kst29 h hr
 |30,_,hr=>kst30 h hr
 |31,_,hr=>kst31 h hr
 |32,_,hr=>kst32 h hr
 |33,_,hr=>kst33 h hr
 |34,_,hr=>kst34 h hr
 |35,_,hr=>kst35 h hr
 |36,_,hr=>kst36 h hr
 |37,_,hr=>kst37 h hr
 |38,_,hr=>kst38 h hr
 |39,_,hr=>kst39 h hr
 |40,_,hr=>kst40 h hr
 |41,_,hr=>kst41 h hr
 |42,_,hr=>kst42 h hr
 |43,_,hr=>kst43 h hr
 |44,_,hr=>kst44 h hr
 |45,_,hr=>kst45 h hr
 |46,_,hr=>kst46 h hr
 |47,_,hr=>kst47 h hr
 |48,_,hr=>kst48 h hr
 |49,_,hr=>kst49 h hr
 |50,_,hr=>kst50 h hr
 |51,_,hr=>kst51 h hr
 |52,_,hr=>kst52 h hr
 |53,_,hr=>kst53 h hr
 |54,_,hr=>kst54 h hr
 |55,_,hr=>kst55 h hr
 |56,_,hr=>kst56 h hr
 |57,_,hr=>kst57 h hr
 |58,_,hr=>kst58 h hr
 |59,_,hr=>kst59 h hr
 |60,_,hr=>kst60 h hr
 |61,_,hr=>kst61 h hr
 |62,_,hr=>kst62 h hr
 |63,_,hr=>kst63 h hr
 |64,_,hr=>kst64 h hr
 |65,_,hr=>kst65 h hr
 |66,_,hr=>kst66 h hr
 |67,_,hr=>kst67 h hr
 |68,_,hr=>kst68 h hr
 |69,_,hr=>kst69 h hr
 |n+70,hi,_=>absurd hi (by omega)
end
theorem arr_fun (t:Array Value):t=((List.range t.size).map (fun i=>t.getD i undef)).toArray:=by
 apply Array.ext
 ·simp
 ·intro i h1 h2
  simp [Array.getD_eq_getD_getElem?,h1]
theorem frame_fun (t:Array Value) (h:t.size=155): ∃f:Nat->Value,t=#[f 0,f 1,f 2,f 3,f 4,f 5,f 6,f 7,f 8,f 9,f 10,f 11,f 12,f 13,f 14,f 15,f 16,f 17,f 18,f 19,f 20,f 21,f 22,f 23,f 24,f 25,f 26,f 27,f 28,f 29,f 30,f 31,f 32,f 33,f 34,f 35,f 36,f 37,f 38,f 39,f 40,f 41,f 42,f 43,f 44,f 45,f 46,f 47,f 48,f 49,f 50,f 51,f 52,f 53,f 54,f 55,f 56,f 57,f 58,f 59,f 60,f 61,f 62,f 63,f 64,f 65,f 66,f 67,f 68,f 69,f 70,f 71,f 72,f 73,f 74,f 75,f 76,f 77,f 78,f 79,f 80,f 81,f 82,f 83,f 84,f 85,f 86,f 87,f 88,f 89,f 90,f 91,f 92,f 93,f 94,f 95,f 96,f 97,f 98,f 99,f 100,f 101,f 102,f 103,f 104,f 105,f 106,f 107,f 108,f 109,f 110,f 111,f 112,f 113,f 114,f 115,f 116,f 117,f 118,f 119,f 120,f 121,f 122,f 123,f 124,f 125,f 126,f 127,f 128,f 129,f 130,f 131,f 132,f 133,f 134,f 135,f 136,f 137,f 138,f 139,f 140,f 141,f 142,f 143,f 144,f 145,f 146,f 147,f 148,f 149,f 150,f 151,f 152,f 153,f 154]/\ ∀i,f i=t.getD i undef:=by
 refine⟨fun i=>t.getD i undef,?_,fun _=>rfl⟩
 have e:=arr_fun t
 rw [h]at e
 exact e
theorem vknown_walk (w:World) (hrows:RowsAt w) (hsp:SpaceAt w):Calls Tryz.prog 7 #[] w fun e w'=>e= .returned (.bool true)/\Below w.heap.size w w':=by
 have HR:=Lib.hid hrows;have HS:=Lib.hid hsp
 clear hrows hsp
 have hbk:=heap_alloc_new w (.cells #[.int .i64 26,.int .i64 0,.int .i64 0,.slice none 0 0,.int .i64 0,.int .i64 0,.int .i64 0,.string ⟨#[]⟩,.slice none 0 0,.slice none 0 0] 47)
 have hbb:=(Below.refl w.heap.size w).alloc (Nat.le_refl _) (.cells #[.int .i64 26,.int .i64 0,.int .i64 0,.slice none 0 0,.int .i64 0,.int .i64 0,.int .i64 0,.string ⟨#[]⟩,.slice none 0 0,.slice none 0 0] 47)
 have HBK:=Lib.hid hbk;have HBB:=Lib.hid hbb
 clear hbk hbb
 go_in
 go_upto_region 2 with fail
 generalize w.alloc (.cells #[.int .i64 26,.int .i64 0,.int .i64 0,.slice none 0 0,.int .i64 0,.int .i64 0,.int .i64 0,.string ⟨#[]⟩,.slice none 0 0,.slice none 0 0] 47)=W1 at *
 generalize hB:w.heap.size=B at *
 have HX:=Lib.hid (lawx_any 0 W1)
 go_wp2_with fail
 refine HX.out.mono ?_
 rintro e W2 ⟨rfl,hb⟩
 clear HX
 have hw:=heap_alloc_new W2 (.cells #[.int .i64 1,.int .i64 0] 42)
 have hba:=(Below.refl W2.heap.size W2).alloc (Nat.le_refl _) (.cells #[.int .i64 1,.int .i64 0] 42)
 have hba2:=below_next hb hba
 have HOA:=Lib.hid hw
 have HBK2:=Lib.hid ((hba2.block _ (lt_of_row HBK.out)).trans HBK.out)
 have HB3:=Lib.hid (below_next (w:=w) (by rw [hB];exact HBB.out) hba2)
 clear hw hba hba2 hb HBK HBB
 go_upto_region 3 with fail
 generalize W2.alloc (.cells #[.int .i64 1,.int .i64 0] 42)=W3 at *
 generalize hO:W2.heap.size=O at *
 refine wp_region_inv (ops:=kops) (RI O B W3) (by kernel_rfl) (by kernel_rfl) kops_back ?_ (fun listed a w i hs h hr=>kstep i (by rw [<-kops_size];exact(ready_mem hr).1) h hr) ?_
 ·have hd:Below W3.heap.size W3 W3.drew:=(Below.refl _ _).drew
  refine⟨rfl,rfl,rfl,rfl,hd,(hd.block _ (lt_of_row HBK2.out)).trans HBK2.out,(hd.block _ (lt_of_row HOA.out)).trans HOA.out,fun i hi hl=>?_⟩
  rw [Array.getD_eq_getD_getElem?,Array.getElem?_replicate]at hl
  split at hl<;>cases hl
 intro listed a W4 h hall
 obtain⟨C,hC,hK⟩:=h.fc 69 (by decide) (hall 69 (by rw [kops_size];decide))
 have hC:a.eval (.tmp 3)= .slice (some ⟨C,0,none⟩) 12 12:=hC
 obtain⟨tm,df⟩:=a
 obtain rfl:df= []:=h.df
 obtain⟨f,hf,hfd⟩:=frame_fun tm h.sz
 have h3:f 3= .slice (some ⟨C,0,none⟩) 12 12:=(hfd 3).trans hC
 have HB4:=Lib.hid (below_next HB3.out h.bel)
 clear hC hfd h hall HOA HBK2 HB3 listed
 subst hf
 simp only [h3]
 have HK:=Lib.hid hK
 have hA:=heap_alloc_new W4 (.cells #[.int .i64 0,.int .i64 0,.int .i64 0,.int .i64 1,.int .i64 1,.int .i64 1,.int .i64 0,.int .i64 0,.int .i64 2,.int .i64 0,.int .i64 3,.int .i64 6] 3)
 have hE:=heap_alloc_new (W4.alloc (.cells #[.int .i64 0,.int .i64 0,.int .i64 0,.int .i64 1,.int .i64 1,.int .i64 1,.int .i64 0,.int .i64 0,.int .i64 2,.int .i64 0,.int .i64 3,.int .i64 6] 3)) (.cells #[.int .i64 180,.int .i64 0,.int .i64 181,.int .i64 181,.int .i64 185,.int .i64 182,.int .i64 183,.int .i64 0,.int .i64 184,.int .i64 6,.int .i64 182,.int .i64 184] 30)
 go_wp2_with fail
 have hs6:(W4.alloc (.cells #[.int .i64 0,.int .i64 0,.int .i64 0,.int .i64 1,.int .i64 1,.int .i64 1,.int .i64 0,.int .i64 0,.int .i64 2,.int .i64 0,.int .i64 3,.int .i64 6] 3)).heap.size=W4.heap.size+1:=by simp
 have hba:Below W4.heap.size W4 ((W4.alloc (.cells #[.int .i64 0,.int .i64 0,.int .i64 0,.int .i64 1,.int .i64 1,.int .i64 1,.int .i64 0,.int .i64 0,.int .i64 2,.int .i64 0,.int .i64 3,.int .i64 6] 3)).alloc (.cells #[.int .i64 180,.int .i64 0,.int .i64 181,.int .i64 181,.int .i64 185,.int .i64 182,.int .i64 183,.int .i64 0,.int .i64 184,.int .i64 6,.int .i64 182,.int .i64 184] 30)):=((Below.refl _ _).alloc (Nat.le_refl _) _).alloc (by rw [hs6];omega) _
 have HKA:=Lib.hid (hK.below hba)
 have HA:=Lib.hid ((Below.heap_alloc _ (.cells #[.int .i64 180,.int .i64 0,.int .i64 181,.int .i64 181,.int .i64 185,.int .i64 182,.int .i64 183,.int .i64 0,.int .i64 184,.int .i64 6,.int .i64 182,.int .i64 184] 30) _ (lt_of_row hA)).trans hA)
 rw [hs6]at hE
 have HE:=Lib.hid hE
 have HB6:=Lib.hid (below_next HB4.out hba)
 clear hba hs6 hA hE hK HK HB4
 generalize(W4.alloc _).alloc _=W6 at *
 generalize hAb:W4.heap.size=A at *
 have HR6:=Lib.hid (HR.out.below HB6.out);have HS6:=Lib.hid (HS.out.below HB6.out)
 go_loopw [6] (fun iv wr=> ∃k:Nat,k<=12/\iv= .int .i64 k/\Hid (Below W6.heap.size W6 wr)) (fun iv _=>12-(intOf iv).toNat)
 case atStart=>exact⟨0,by omega,rfl,Lib.hid (Below.refl _ _)⟩
 case round=>
  obtain⟨k,hk,rfl,HBK⟩:=hrel
  rename World=>wr
  by_cases hlt:k<12
  ·as_aux_lemma=>
   obtain⟨hCl,hK⟩:=HKA.out
   obtain⟨l,n,fo,co,fc,cc,i,e,hn,c0,c1,c2,c3,c4,c5,hup,hnm,hwh,hat,hwant⟩:=(hK k hlt).ex
   have kk: ∀j v,W6.cell? ⟨C,j,none⟩=some v->wr.cell? ⟨C,j,none⟩=some v:=fun j v h=>(HBK.out.cell (p:=⟨C,j,none⟩) hCl).trans h
   have d0:=kk _ _ c0;have d1:=kk _ _ c1;have d2:=kk _ _ c2;have d3:=kk _ _ c3;have d4:=kk _ _ c4;have d5:=kk _ _ c5
   have hA2:=(HBK.out.block _ (lt_of_row HA.out)).trans HA.out
   have hE2:=(HBK.out.block _ (lt_of_row HE.out)).trans HE.out
   have HW:=Lib.hid (where_ex l n hn fo co fc cc i e wr (HR6.out.below HBK.out) (HS6.out.below HBK.out) (hup.below HBK.out) hnm hwh)
   have HAK:Hid (∀wx,Below wr.heap.size wr wx->wx.cell? ⟨A,k,none⟩=some (.int .i64 i)):=Lib.hid fun wx hx=>by
    rw [hx.cell (p:=⟨A,k,none⟩) (lt_of_row hA2),cell_of_row _ _ _ _ _ _ hA2,List.getElem?_toArray]
    show(katL.map (Value.int .i64))[k]?=_
    rw [List.getElem?_map,hat];rfl
   have HEK:Hid (∀wx,Below wr.heap.size wr wx->wx.cell? ⟨A+1,k,none⟩=some (.int .i64 e)):=Lib.hid fun wx hx=>by
    rw [hx.cell (p:=⟨A+1,k,none⟩) (lt_of_row hE2),cell_of_row _ _ _ _ _ _ hE2,List.getElem?_toArray]
    show(kwantL.map (Value.int .i64))[k]?=_
    rw [List.getElem?_map,hwant];rfl
   have hk0:(0:Int)<=(k:Int):=by omega
   have hk1:(k:Int)<12:=by omega
   clear hCl hK kk c0 c1 c2 c3 c4 c5 hA2 hE2 hup hnm hwh hat hwant hn
   go_wp2_with fail
   refine HW.out.mono ?_
   rintro e' w7 ⟨rfl,hb7⟩
   have a0:=HAK.out _ hb7;have a1:=HEK.out _ hb7
   have HB7:=Lib.hid (below_next HBK.out hb7)
   clear hb7 HW HAK HEK d0 d1 d2 d3 d4 d5
   go_wp2_with fail
   refine⟨⟨k+1,hlt,by go_num,HB7⟩,by simp [intOf];omega⟩
  ·obtain rfl:k=12:=by omega
   have himg:=heap_alloc_new wr (.cells #[.string ⟨#[]⟩,.int .i64 0,.slice none 0 0,.slice none 0 0,.slice none 0 0,.slice none 0 0,.map none] 66)
   have hbi:Below wr.heap.size wr (wr.alloc (.cells #[.string ⟨#[]⟩,.int .i64 0,.slice none 0 0,.slice none 0 0,.slice none 0 0,.slice none 0 0,.map none] 66)):=(Below.refl _ _).alloc (Nat.le_refl _) _
   have HIM:=Lib.hid himg
   have HB8:=Lib.hid (below_next HBK.out hbi)
   clear himg hbi HBK HKA HA HE
   go_upto_region 14 with fail
   generalize wr.alloc (.cells #[.string ⟨#[]⟩,.int .i64 0,.slice none 0 0,.slice none 0 0,.slice none 0 0,.slice none 0 0,.map none] 66)=W8 at *
   generalize hZ:wr.heap.size=Z at *
   have HZ:Hid (∀wx,Below W8.heap.size W8 wx->wx.cell? ⟨Z,6,none⟩=some (.map none)):=Lib.hid fun wx hx=>by
    rw [hx.cell (p:=⟨Z,6,none⟩) (lt_of_row HIM.out),cell_of_row _ _ _ _ _ _ HIM.out]
    rfl
   have HF:=Lib.hid (imgfind_nil ⟨#[102]⟩ 1 W8)
   go_wp2_with fail
   refine HF.out.mono ?_
   rintro e w9 ⟨rfl,rfl⟩
   clear HF
   have HF:=Lib.hid (imgfun_zero Z 0 w9 (HZ.out _ (Below.refl _ _)))
   go_wp2_with fail
   refine HF.out.mono ?_
   rintro e w10 ⟨rfl,hb10⟩
   have HB10:=Lib.hid hb10
   clear HF hb10
   go_upto_region 16 with fail
   have hbf:Below w10.heap.size w10 (w10.alloc (.cells #[.int .i64 0,.int .i64 0,.int .i64 0] 70)):=(Below.refl _ _).alloc (Nat.le_refl _) _
   have hb11:=below_next HB10.out hbf
   have HZ11:=Lib.hid (HZ.out _ hb11)
   have HB11:=Lib.hid (below_next (below_next HB6.out HB8.out) hb11)
   clear hbf hb11 HZ HB10 HIM HB6 HB8
   generalize w10.alloc (.cells #[.int .i64 0,.int .i64 0,.int .i64 0] 70)=W11 at *
   have HM:=Lib.hid (imgmodule_nil W11)
   go_wp2_with fail
   refine HM.out.mono ?_
   rintro e w12 ⟨rfl,rfl⟩
   clear HM
   have HM:=Lib.hid (imgvsn_zero Z w12 HZ11.out)
   go_wp2_with fail
   refine HM.out.mono ?_
   rintro e w13 ⟨rfl,rfl⟩
   clear HM
   have HM:=Lib.hid (imgunit_nil w13)
   go_wp2_with fail
   refine HM.out.mono ?_
   rintro e w14 ⟨rfl,hb14⟩
   clear HM
   have hb:=below_next HB11.out hb14
   have HM:=Lib.hid (vawake_any w14 (HR.out.below hb) (HS.out.below hb))
   have HB14:=Lib.hid hb
   clear hb hb14
   have hfld:(Instr.field 27 (.agg #[.string ⟨#[]⟩,.int .i64 0,.slice none 0 0,.slice none 0 0,.slice none 0 0,.slice none 0 0]) 5).run Tryz.prog w14= .ok (.slice none 0 0) w14:=by kernel_rfl
   go_wp2_with fail
   refine HM.out.mono ?_
   rintro e w15 ⟨rfl,hb15⟩
   go_wp2_with fail
   go_ret
   exact⟨rfl,below_next HB14.out hb15⟩
open Go.ChangeShapes Go.WideShapes Go.ChangeAt Go.RowKit
open Go.ChangeMaps (open_string shut_string)
open Go.Proofs.YtepjanajflkakaaGreatDoor
theorem own:ownKnob Tryz.prog.godebug=none:=by kernel_rfl
theorem laidOut:laidOutB Tryz.prog=true:=by kernel_rfl
theorem laid_met (os:Os):laidMet Tryz.prog Rows.verifyKnownRow.laid ((laidWorld os).forCall (fun _ _=>0) ⟨#[],#[],[]⟩).memory:=
 laidMet_of_run3 8 (by kernel_rfl) (by kernel_rfl) (by kernel_rfl)
theorem reads (os:Os) {H:Type} (enc:TypeId × Value->H): ∃ds places,DataW.whole enc Tryz.prog ((laidWorld os).forCall (fun _ _=>0) ⟨#[],#[],[]⟩).memory Tryz.f7.params.toList Rows.verifyKnownSpec.vars false (#[]:Array Value).toList 8=some (ds,[],places):=
 ⟨[],[],by kernel_rfl⟩
theorem lifted (os:Os) (started:os.Started) (H:Type) (enc:TypeId × Value->H) (F:Stop.Interp):
  ReturnsInHanded {} Tryz.checked os 7 .any ((OpenSpec.ofChange Rows.verifyKnownSpec).preRow enc Tryz.prog Tryz.f7 Rows.verifyKnownRow.domain false Rows.verifyKnownRow.laid) (((OpenSpec.ofChange Rows.verifyKnownSpec).at F).post enc Tryz.prog Tryz.f7 false true false false):=by
 obtain⟨ds0,places,hx⟩:=reads os enc
 refine returnsInHanded_of_row (C:=Tryz.checked) (s:=OpenSpec.ofChange Rows.verifyKnownSpec) own started (by kernel_rfl) Tryz.func7
  (witness_row_atRef (enc:=enc) (C:=Tryz.checked) false (laidWorld os) #[] rfl (by kernel_rfl) (by kernel_rfl) (by kernel_rfl)
   (OpenSpec.preRow_of_cond 8 hx (by kernel_rfl) (fun k hk=>by cases hk) (by kernel_rfl) (laid_met os))) ?_
 intro W base args ds gs before hval0 hW _ _ hsz hL _ _
 have hval: ∀(j:Nat) t v,Tryz.f7.params[j]?=some t->args[j]?=some v->Value.okWide Tryz.prog W .any base t v:=hval0
 have hW':=hW
 obtain⟨p,q,hA0,hV,rfl,hfz,hnd⟩:=hW
 have hA:DataW.TrodAll enc Tryz.prog W 0 (fun _=>true) true Tryz.f7.params.toList args.toList ds p:=hA0
 obtain⟨rfl,rfl,rfl⟩:=trodAll_none hA
 obtain⟨rfl,rfl⟩:=trodVars_none hV
 clear hA0 hval0
 refine(vknown_walk W (rows_at hL (.tail _ (.tail _ (.head _)))) (space_at hL)).mono fun e W' ⟨he,bel⟩=>?_
 subst he
 exact⟨_,rfl,_,_,_,[],_,[],hW',trodAll_mk1 (shut_bool Tryz.underlying4 _),trodAll_mk0,rfl,bel.frame _,fun h=>by cases h⟩
theorem said:Rows.VerifyKnownSaid:=
 OpenClaim.holds_of_cond 7 Tryz.f7 rfl rfl rfl rfl rfl rfl rfl ⟨rfl,rfl,rfl,rfl,rfl⟩ rfl rfl rfl rfl rfl (by kernel_rfl) Tryz.func7 (by kernel_rfl)
  (of_decide_eq_true (by kernel_rfl)) (by unfold Func.isWrapper;first|(rw [if_pos (by decide +kernel)];kernel_rfl)|(rw [if_neg (by decide +kernel)];exact⟨rfl,rfl⟩))
  (fun os started H enc _ F=>by rw [OpenClaim.pre_eq_preRow];exact lifted os started H enc F)
theorem plain (f:FuncId) (fn:Func) (hf:Tryz.pinned.checked.prog.funcNamed "stagehand/stagehandlaw18.VerifyKnown" =some f) (hfn:Tryz.pinned.checked.prog.funcs[f]?=some fn):
  false=Tryz.pinned.checked.prog.looks []/\ ∀(j:Nat) t,fn.params[j]?=some t->Tryz.pinned.checked.prog.wantsStandIn t=false:=by
 obtain rfl:f=7:=Option.some.inj ((show Tryz.prog.funcNamed "stagehand/stagehandlaw18.VerifyKnown" =some 7 by kernel_rfl).symm.trans hf) |>.symm
 obtain rfl:fn=Tryz.f7:=(Option.some.inj (Tryz.func7.symm.trans hfn)).symm
 refine⟨by kernel_rfl,fun j t ht=>?_⟩
 have e:Tryz.f7.params=#[]:=by kernel_rfl
 rw [e]at ht
 simp at ht
theorem proved:Rows.VerifyKnownCardSaid:=
 Claim7.holds_tied_plain_at .later [] _ _ _ _ said (fun _ h=>by cases h) (by kernel_rfl) (fun _ h=>by cases h) verifyKnown_row_tie rfl ⟨rfl,rfl⟩ (by kernel_rfl) rfl plain (by kernel_rfl)
#print axioms proved
end Go.Proofs.YtepjanajflkakaaGreatDoor
