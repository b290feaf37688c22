import Derived.Test.YtponljdhfoipjaaGreatDoorW01
namespace Go.Proofs.YtponljdhfoipjaaGreatDoor
open Go.RowKit
set_option linter.unusedVariables false
set_option linter.unusedSimpArgs false
set_option maxRecDepth 100000
set_option maxHeartbeats 0
section
variable {α:Type} {w w':World} {size:Nat} {R R':List Value->α->Prop} {b off:Nat}
def RowsAll (w:World) (size:Nat) (R:List Value->α->Prop) (b off:Nat) (l:List α):Prop:= ∀j (h:j<l.length),∃cs:List Value,cs.length=size/\(∀i,i<size->w.cell? ⟨b,off+j*size+i,none⟩=cs[i]?)/\R cs l[j]
theorem rows_values: ∀{l:List α} {off:Nat},RowsAll w size R b off l->(∀cs a,R cs a-> ∀v∈cs,v.oneCell'=true)-> ∃vs:List Value,vs.length=l.length*size/\(∀k,k<l.length*size->w.cell? ⟨b,off+k,none⟩=vs[k]?)/\ ∀v∈vs,v.oneCell'=true
 |[],off,h,_=>⟨[],by simp,fun k hk=>by simp at hk,fun v hv=>by cases hv⟩
 |a::l,off,h,hR=>by
  obtain⟨cs,hl,hc,hr⟩:=h 0 (by simp)
  have h':RowsAll w size R b (off+size) l:=fun j hj=>by
   obtain⟨cs',g1,g2,g3⟩:=h (j+1) (by simpa using hj)
   refine⟨cs',g1,fun i hi=>?_,by simpa using g3⟩
   rw [<-g2 i hi,show off+size+j*size+i=off+(j+1)*size+i by rw [Nat.add_mul,Nat.one_mul];omega]
  obtain⟨vs,e1,e2,e3⟩:=rows_values h' hR
  refine⟨cs++vs,by rw [List.length_append,hl,e1,List.length_cons,Nat.add_mul,Nat.one_mul];omega,fun k hk=>?_,fun v hv=>(List.mem_append.1 hv).elim (hR _ _ hr v) (e3 v)⟩
  by_cases c:k<size
  ·rw [List.getElem?_append_left (by omega),<-hc k c,Nat.zero_mul,Nat.add_zero]
  ·rw [List.getElem?_append_right (by omega),hl,<-e2 (k-size) (by rw [List.length_cons,Nat.add_mul,Nat.one_mul]at hk;omega),show off+size+(k-size)=off+k by omega]
theorem SlAt.rows {ao:zzA} {l:List α} (h:SlAt w size R ao l) (hl:l≠ []): ∃b off,ao=some ⟨b,off,none⟩/\b<w.heap.size/\RowsAll w size R b off l:=by
 rcases h with h|h
 ·exact absurd h hl
 ·exact h
end
theorem argR_one: ∀cs a,ArgR cs a-> ∀v∈cs,v.oneCell'=true:=fun cs a ⟨h,_⟩ v hv=>by subst h;simp at hv;rcases hv with rfl|rfl<;>rfl
theorem caseR_one: ∀cs a,CaseR cs a-> ∀v∈cs,v.oneCell'=true:=fun cs a ⟨h,_⟩ v hv=>by subst h;simp at hv;rcases hv with rfl|rfl<;>rfl
theorem segR_one: ∀cs a,SegR cs a-> ∀v∈cs,v.oneCell'=true:=fun cs a ⟨h,_⟩ v hv=>by subst h;simp at hv;rcases hv with rfl|rfl|rfl|rfl|rfl|rfl<;>rfl
theorem funcR_one: ∀cs a,FuncR cs a-> ∀v∈cs,v.oneCell'=true:=fun cs a ⟨h,_⟩ v hv=>by subst h;simp at hv;rcases hv with rfl|rfl|rfl|rfl<;>rfl
theorem funR_one: ∀cs a,FunR cs a-> ∀v∈cs,v.oneCell'=true:=fun cs a ⟨h,_⟩ v hv=>by subst h;simp at hv;rcases hv with rfl|rfl|rfl<;>rfl
theorem insR_one {w:World}: ∀cs a,InsR w cs a-> ∀v∈cs,v.oneCell'=true:=fun cs a ⟨⟨so,sc,co,cc,go,gc,h,_⟩,_⟩ v hv=>by subst h;simp at hv;rcases hv with rfl|rfl|rfl|rfl|rfl|rfl|rfl|rfl|rfl|rfl<;>rfl
theorem tmAt_one {w:World} {f:Nat}: ∀cs a,TmAt w f cs a-> ∀v∈cs,v.oneCell'=true:=fun cs a h v hv=>by
 cases f with
 |zero=>exact h.elim
 |succ f=>obtain⟨⟨ao,c,h,_⟩,_⟩:=h;subst h;simp at hv;rcases hv with rfl|rfl|rfl|rfl|rfl|rfl|rfl|rfl|rfl<;>rfl
def RwsIn {α:Type} (size:Nat) (R:List Value->α->Prop):List Value->List α->Prop
 |xs,[]=>xs= []
 |xs,t::ts=> ∃cs ys,xs=cs++ys/\cs.length=size/\R cs t/\RwsIn size R ys ts
theorem RwsIn.get {α:Type} {size:Nat} {R:List Value->α->Prop}: ∀{ts:List α} {xs:List Value},RwsIn size R xs ts-> ∀j (h:j<ts.length),∃cs:List Value,cs.length=size/\(∀i,i<size->xs[j*size+i]?=cs[i]?)/\R cs ts[j]
 |[],_,_,j,h=>absurd h (Nat.not_lt_zero _)
 |t::ts,_,⟨cs,ys,a,b,c,d⟩,0,_=>⟨cs,b,fun i hi=>by rw [a,Nat.zero_mul,Nat.zero_add,List.getElem?_append_left (by omega)],c⟩
 |t::ts,_,⟨cs,ys,a,b,c,d⟩,j+1,h=>by
  obtain⟨cs',h1,h2,h3⟩:=RwsIn.get d j (by simpa using h)
  refine⟨cs',h1,fun i hi=>?_,h3⟩
  rw [a,List.getElem?_append_right (by rw [b,Nat.succ_mul];omega),<-h2 i hi]
  congr 1
  rw [b,Nat.succ_mul];omega
theorem sl_rows {α:Type} {w:World} {size b:Nat} {T:TypeId} {R:List Value->α->Prop} {xs:List Value} {l:List α} (h:w.heap[b]?=some (.cells xs.toArray T (0,0))) (hr:RwsIn size R xs l):SlAt w size R (some ⟨b,0,none⟩) l:=
 .inr ⟨b,0,rfl,lt_of_row h,fun j hj=>by
  obtain⟨cs,h1,h2,h3⟩:=hr.get j hj
  exact⟨cs,h1,fun i hi=>by rw [cell_of_row _ _ _ _ _ _ h,Nat.zero_add,<-h2 i hi,List.getElem?_toArray],h3⟩⟩
theorem three_allocs (w:World) (o0 o1 o2:Obj):(((w.alloc o0).alloc o1).alloc o2).heap[w.heap.size]?=some o0/\(((w.alloc o0).alloc o1).alloc o2).heap[w.heap.size+1]?=some o1 /\
  (((w.alloc o0).alloc o1).alloc o2).heap[w.heap.size+1+1]?=some o2/\Below w.heap.size w (((w.alloc o0).alloc o1).alloc o2):=by
 have s: ∀(x:World) (o:Obj),(x.alloc o).heap.size=x.heap.size+1:=fun x o=>by simp
 have n: ∀(x:World) (o:Obj),(x.alloc o).heap[x.heap.size]?=some o:=fun x o=>heap_alloc_new x o
 have k: ∀(x:World) (o:Obj) (j:Nat) (p:Obj),x.heap[j]?=some p->(x.alloc o).heap[j]?=some p:=fun x o j p h=>(Below.heap_alloc x o j (lt_of_row h)).trans h
 have e1:=n (w.alloc o0) o1;rw [s]at e1
 have e2:=n ((w.alloc o0).alloc o1) o2;rw [s,s]at e2
 exact⟨k _ _ _ _ (k _ _ _ _ (n w o0)),k _ _ _ _ e1,e2,((zzE _ _).alloc (by rw [s];omega) _).alloc (by rw [s,s];omega) _⟩
theorem six_cells {w:World} {b:Nat} {T:TypeId} {v0 v1 v2 v3 v4 v5:Value} (h:w.heap[b]?=some (.cells #[v0,v1,v2,v3,v4,v5] T (0,0))):
  w.cell? ⟨b,0,none⟩=some v0/\w.cell? ⟨b,1,none⟩=some v1/\w.cell? ⟨b,2,none⟩=some v2/\w.cell? ⟨b,3,none⟩=some v3/\w.cell? ⟨b,4,none⟩=some v4/\w.cell? ⟨b,5,none⟩=some v5:=
 ⟨cell_of_row w b 0 _ _ _ h,cell_of_row w b 1 _ _ _ h,cell_of_row w b 2 _ _ _ h,cell_of_row w b 3 _ _ _ h,cell_of_row w b 4 _ _ _ h,cell_of_row w b 5 _ _ _ h⟩
def Ivs (lo hi:Nat) (own:Option Nat) (n:Nat) (a e:Nat->Nat):Prop:=
 ∀j,j<n->lo<=a j/\a j<=e j/\e j<=hi/\(∀g,own=some g->g<a j\/e j<=g)/\ ∀i,i<j->e i<=a j
def SlS {α:Type} (w:World) (R:Nat->Nat->List Value->α->Prop) (T:TypeId) (size lo hi:Nat) (ao:Option Addr) (l:List α):Prop:=
 l= []\/ ∃b arr a e,ao=some ⟨b,0,none⟩/\lo<=b/\b<hi/\w.heap[b]?=some (.cells arr T (0,0))/\Ivs lo hi (some b) l.length a e /\
  ∀j (h:j<l.length),∃cs:List Value,cs.length=size/\(∀i,i<size->arr[j*size+i]?=cs[i]?)/\R (a j) (e j) cs l[j]
theorem Ivs.widen {lo hi lo' hi':Nat} {own:Option Nat} {n:Nat} {a e:Nat->Nat} (h:Ivs lo hi own n a e) (h1:lo'<=lo) (h2:hi<=hi'):Ivs lo' hi' own n a e:=fun j hj=>by
 obtain⟨g1,g2,g3,g4,g5⟩:=h j hj
 exact⟨Nat.le_trans h1 g1,g2,Nat.le_trans g3 h2,g4,g5⟩
theorem SlS.kept {α:Type} {w w':World} {R R':Nat->Nat->List Value->α->Prop} {T:TypeId} {size lo hi lo' hi':Nat} {ao:zzA} {l:List α} (h:SlS w R T size lo hi ao l)
  (hk: ∀b,lo<=b->b<hi->w'.heap[b]?=w.heap[b]?) (h1:lo'<=lo) (h2:hi<=hi') (hR: ∀a e cs t,lo<=a->e<=hi->R a e cs t->R' a e cs t):SlS w' R' T size lo' hi' ao l:=by
 rcases h with h|⟨b,arr,a,e,e1,hb1,hb2,hg,hv,hx⟩
 ·exact .inl h
 ·refine .inr ⟨b,arr,a,e,e1,Nat.le_trans h1 hb1,Nat.lt_of_lt_of_le hb2 h2,(hk b hb1 hb2).trans hg,hv.widen h1 h2,fun j hj=>?_⟩
  obtain⟨cs,k1,k2,k3⟩:=hx j hj
  exact⟨cs,k1,k2,hR _ _ _ _ (hv j hj).1 (hv j hj).2.2.1 k3⟩
def tmRow (t:Tm) (so:Option Addr) (c:Nat):List Value:=[.int .i64 t.kind,.int .i64 t.int,.int .i64 t.gen,.string t.name,.string t.func,.int .i64 t.arity,.slice so t.items.length c,.string t.bytes,.int .i64 t.bits]
def SepT (w:World):Nat->Nat->Nat->List Value->Tm->Prop
 |0,_,_,_,_=>False
 |f+1,lo,hi,cs,t=>(∃so c,cs=tmRow t so c/\SlS w (SepT w f) 44 9 lo hi so t.items)/\t.Ok
theorem SepT.kept {w w':World}: ∀{f lo hi lo' hi':Nat} {cs:List Value} {t:Tm},SepT w f lo hi cs t->(∀b,lo<=b->b<hi->w'.heap[b]?=w.heap[b]?)->lo'<=lo->hi<=hi'->SepT w' f lo' hi' cs t
 |0,_,_,_,_,_,_,h,_,_,_=>h
 |f+1,lo,hi,_,_,_,_,⟨⟨so,c,e,h⟩,ho⟩,hk,h1,h2=>
  ⟨⟨so,c,e,h.kept hk h1 h2 fun a e cs t ha he hx=>SepT.kept hx (fun b b1 b2=>hk b (Nat.le_trans ha b1) (Nat.lt_of_lt_of_le b2 he)) (Nat.le_refl _) (Nat.le_refl _)⟩,ho⟩
theorem SlS.at {α:Type} {w:World} {R:Nat->Nat->List Value->α->Prop} {R':List Value->α->Prop} {T:TypeId} {size lo hi:Nat} {ao:zzA} {l:List α} (h:SlS w R T size lo hi ao l) (hR: ∀a e cs t,R a e cs t->R' cs t):SlAt w size R' ao l:=by
 rcases h with h|⟨b,arr,a,e,e1,hb1,hb2,hg,hv,hx⟩
 ·exact .inl h
 ·refine .inr ⟨b,0,e1,lt_of_row hg,fun j hj=>?_⟩
  obtain⟨cs,k1,k2,k3⟩:=hx j hj
  exact⟨cs,k1,fun i hi=>by rw [cell_of_row _ _ _ _ _ _ hg,Nat.zero_add,<-k2 i hi],hR _ _ _ _ k3⟩
theorem SepT.at {w:World}: ∀{f lo hi:Nat} {cs:List Value} {t:Tm},SepT w f lo hi cs t->TmAt w f cs t
 |0,_,_,_,_,h=>h
 |_+1,_,_,_,_,⟨⟨so,c,e,h⟩,ho⟩=>⟨⟨so,c,e,h.at fun _ _ _ _ hx=>SepT.at hx⟩,ho⟩
theorem SepT.len {w:World} {f lo hi:Nat} {cs:List Value} {t:Tm} (h:SepT w f lo hi cs t):cs.length=9:=by
 cases f with
 |zero=>exact h.elim
 |succ f=>obtain⟨⟨so,c,e,-⟩,-⟩:=h;rw [e];rfl
def AccS {α:Type} (w:World) (R:Nat->Nat->List Value->α->Prop) (T:TypeId) (size B:Nat) (v:Value) (l:List α):Prop:=
 ∃xs a e,w.ownsRow B T size v l.length xs/\Ivs B w.heap.size v.ownBlock l.length a e /\
  ∀j (h:j<l.length),∃cs:List Value,cs.length=size/\(∀i,i<size->xs[j*size+i]?=cs[i]?)/\R (a j) (e j) cs l[j]
theorem AccS.nil {α:Type} (w:World) (R:Nat->Nat->List Value->α->Prop) (T:TypeId) (size B:Nat):AccS w R T size B (.slice none 0 0) []:=
 ⟨[],fun _=>0,fun _=>0,World.ownsRow_nil _ _ _ _,fun j hj=>absurd hj (Nat.not_lt_zero _),fun j hj=>absurd hj (Nat.not_lt_zero _)⟩
theorem AccS.made {α:Type} {w:World} {R:Nat->Nat->List Value->α->Prop} {T:TypeId} {size B:Nat} {v:Value} (h:w.ownsRow B T size v 0 []):AccS w R T size B v ([]:List α):=
 ⟨[],fun _=>0,fun _=>0,h,fun j hj=>absurd hj (Nat.not_lt_zero _),fun j hj=>absurd hj (Nat.not_lt_zero _)⟩
theorem AccS.below {α:Type} {w w':World} {R R':Nat->Nat->List Value->α->Prop} {T:TypeId} {size B:Nat} {v:Value} {l:List α} (h:AccS w R T size B v l) (hb:Below w.heap.size w w') (hR: ∀a e cs t,e<=w.heap.size->R a e cs t->R' a e cs t):AccS w' R' T size B v l:=by
 obtain⟨xs,a,e,ho,hv,hx⟩:=h
 refine⟨xs,a,e,ho.kept (grownBy_below hb none) (by cases v.ownBlock<;>simp),hv.widen (Nat.le_refl _) hb.size,fun j hj=>?_⟩
 obtain⟨cs,k1,k2,k3⟩:=hx j hj
 exact⟨cs,k1,k2,hR _ _ _ _ (hv j hj).2.2.1 k3⟩
theorem AccS.app {α:Type} {w0 w w':World} {R R':Nat->Nat->List Value->α->Prop} {T:TypeId} {size B lo hi g cap:Nat} {v:Value} {l:List α} {cs:List Value} {t:α} {xs:List Value} {a e:Nat->Nat}
  (ho:w.ownsRow B T size v l.length xs) (hv:Ivs B w0.heap.size v.ownBlock l.length a e) (hx: ∀j (h:j<l.length),∃cs:List Value,cs.length=size/\(∀i,i<size->xs[j*size+i]?=cs[i]?)/\R (a j) (e j) cs l[j])
  (hlo:w0.heap.size<=lo) (hlh:lo<=hi) (hhi:hi<=w.heap.size) (hBw:B<=w0.heap.size) (hv0: ∀k,v.ownBlock=some k->k<w0.heap.size) (hcl:cs.length=size) (hR0:R lo hi cs t)
  (hg:w.grownBy w' v.ownBlock) (hat:v.ownBlock=some g\/g=w.heap.size) (ho':w'.ownsRow B T size (.slice (some ⟨g,0,none⟩) (l.length+1) cap) (l.length+1) (xs++cs))
  (hR: ∀a e cs t,(∀k,v.ownBlock=some k->k<a\/e<=k)->e<=w.heap.size->R a e cs t->R' a e cs t):AccS w' R' T size B (.slice (some ⟨g,0,none⟩) (l.length+1) cap) (l++ [t]):=by
 have hxl:xs.length=l.length*size:=ho.1
 have hgs:=hg.size
 refine⟨xs++cs,fun j=>if j<l.length then a j else lo,fun j=>if j<l.length then e j else hi,by rw [List.length_append];exact ho',fun j hj=>?_,fun j hj=>?_⟩
 ·rw [List.length_append,List.length_singleton]at hj
  by_cases c:j<l.length
  ·obtain⟨g1,g2,g3,g4,g5⟩:=hv j c
   simp only [c,if_true]
   refine⟨g1,g2,by omega,fun k hk=>?_,fun i hi=>?_⟩
   ·have hk:g=k:=Option.some.inj hk
    subst hk
    rcases hat with h|h
    ·exact g4 g h
    ·right;omega
   ·rw [if_pos (by omega)];exact g5 i hi
  ·simp only [c,if_false]
   refine⟨by omega,hlh,by omega,fun k hk=>?_,fun i hi=>?_⟩
   ·have hk:g=k:=Option.some.inj hk
    subst hk
    rcases hat with h|h
    ·left;have:=hv0 g h;omega
    ·right;omega
   ·by_cases c2:i<l.length
    ·rw [if_pos c2];have:=(hv i c2).2.2.1;omega
    ·omega
 ·rw [List.length_append,List.length_singleton]at hj
  by_cases c:j<l.length
  ·obtain⟨cs',k1,k2,k3⟩:=hx j c
   refine⟨cs',k1,fun i hi=>?_,?_⟩
   ·have:j*size+i<l.length*size:=by
     have h5:(j+1)*size<=l.length*size:=Nat.mul_le_mul_right _ c
     rw [Nat.succ_mul]at h5;omega
    rw [List.getElem?_append_left (by omega),k2 i hi]
   ·simp only [c,if_true]
    rw [List.getElem_append_left c]
    exact hR _ _ _ _ (hv j c).2.2.2.1 (by have:=(hv j c).2.2.1;have:=hhi;omega) k3
  ·have hjl:j=l.length:=by omega
   subst hjl
   refine⟨cs,hcl,fun i hi=>?_,?_⟩
   ·rw [List.getElem?_append_right (by omega)];congr 1;omega
   ·simp only [Nat.lt_irrefl,if_false]
    rw [List.getElem_append_right (by omega)]
    simp only [Nat.sub_self,List.getElem_singleton]
    exact hR _ _ _ _ (fun k hk=>.inl (by have:=hv0 k hk;omega)) hhi hR0
theorem AccS.sl {α:Type} {w:World} {R:Nat->Nat->List Value->α->Prop} {T:TypeId} {size B:Nat} {v:Value} {l:List α} (h:AccS w R T size B v l): ∃ao c,v= .slice ao l.length c/\SlS w R T size B w.heap.size ao l:=by
 obtain⟨xs,a,e,ho,hv,hx⟩:=h
 rcases ho.2 with⟨rfl,h0⟩|⟨g,cap,cur,rfl,hB,hg,h1,h2,h3,h4⟩
 ·exact⟨none,0,by rw [h0],.inl (List.eq_nil_of_length_eq_zero h0)⟩
 ·refine⟨_,_,rfl,.inr ⟨g,cur,a,e,rfl,hB,lt_of_row hg,hg,hv,fun j hj=>?_⟩⟩
  obtain⟨cs,k1,k2,k3⟩:=hx j hj
  refine⟨cs,k1,fun i hi=>?_,k3⟩
  rw [<-k2 i hi,<-h4,<-Array.getElem?_toList,List.getElem?_take]
  have:j*size+i<l.length*size:=by
   have h5:(j+1)*size<=l.length*size:=Nat.mul_le_mul_right _ hj
   rw [Nat.succ_mul]at h5;omega
  rw [if_pos this]
theorem infoTm:(Tryz.prog.info? 44).map (fun i=>(i.zero,i.size,i.bytes))=some (some (.agg #[.int .i64 0,.int .i64 0,.int .i64 0,.string ⟨#[]⟩,.string ⟨#[]⟩,.int .i64 0,.slice none 0 0,.string ⟨#[]⟩,.int .i64 0]),9,112):=by kernel_rfl
def CopyP (f:Nat):Prop:= ∀(t:Tm) (so:Option Addr) (c:Nat) (w:World),SlAt w 9 (TmAt w f) so t.items->t.Ok->capF (f+1) t<=1000000 ->
 Calls Tryz.prog 43 #[.agg #[.int .i64 t.kind,.int .i64 t.int,.int .i64 t.gen,.string t.name,.string t.func,.int .i64 t.arity,.slice so t.items.length c,.string t.bytes,.int .i64 t.bits]] w
  fun e w'=>(∃so' c',e= .returned (.agg #[.int .i64 t.kind,.int .i64 t.int,.int .i64 t.gen,.string t.name,.string t.func,.int .i64 t.arity,.slice so' t.items.length c',.string t.bytes,.int .i64 t.bits])/\SlS w' (SepT w' f) 44 9 w.heap.size w'.heap.size so' t.items)/\Below w.heap.size w w'
def CopiesP (f:Nat):Prop:= ∀(l:List Tm) (ao:Option Addr) (c:Nat) (w:World),SlAt w 9 (TmAt w f) ao l->sumN (l.map (capF f))+l.length<=1000000 ->
 Calls Tryz.prog 92 #[.slice ao l.length c] w
  fun e w'=>(∃ao' c',e= .returned (.slice ao' l.length c')/\SlS w' (SepT w' f) 44 9 w.heap.size w'.heap.size ao' l)/\Below w.heap.size w w'
theorem nine_cells {w:World} {B:Nat} {T:TypeId} {v0 v1 v2 v3 v4 v5 v6 v7 v8:Value} {fr:Nat × Nat} (h:w.heap[B]?=some (.cells #[v0,v1,v2,v3,v4,v5,v6,v7,v8] T fr)):
  w.cell? ⟨B,0,none⟩=some v0/\w.cell? ⟨B,1,none⟩=some v1/\w.cell? ⟨B,2,none⟩=some v2/\w.cell? ⟨B,3,none⟩=some v3/\w.cell? ⟨B,4,none⟩=some v4/\w.cell? ⟨B,5,none⟩=some v5/\w.cell? ⟨B,6,none⟩=some v6/\w.cell? ⟨B,7,none⟩=some v7/\w.cell? ⟨B,8,none⟩=some v8:=by
 have hc:=fun j=>cell_of_row w B j _ _ _ h
 exact⟨hc 0,hc 1,hc 2,hc 3,hc 4,hc 5,hc 6,hc 7,hc 8⟩
theorem two_new (w:World) (o0 o1:Obj):((w.alloc o0).alloc o1).heap[w.heap.size]?=some o0/\((w.alloc o0).alloc o1).heap[w.heap.size+1]?=some o1/\Below w.heap.size w ((w.alloc o0).alloc o1)/\((w.alloc o0).alloc o1).heap.size=w.heap.size+2:=by
 have s: ∀(x:World) (o:Obj),(x.alloc o).heap.size=x.heap.size+1:=fun x o=>by simp
 have e1:=heap_alloc_new (w.alloc o0) o1;rw [s]at e1
 exact⟨(Below.heap_alloc _ _ _ (by rw [s];omega)).trans (heap_alloc_new w o0),e1,(zzE _ _).alloc (by rw [s];omega) _,by rw [s,s]⟩
theorem copy_of (f:Nat) (HC:CopiesP f):CopyP f:=by
 intro t so c w hs ho hcap
 obtain⟨e0,e1,eb,es⟩:=two_new w (.cells #[.int .i64 t.kind,.int .i64 t.int,.int .i64 t.gen,.string t.name,.string t.func,.int .i64 t.arity,.slice so t.items.length c,.string t.bytes,.int .i64 t.bits] 44) (.cells #[.int .i64 0,.int .i64 0,.int .i64 0,.string ⟨#[]⟩,.string ⟨#[]⟩,.int .i64 0,.slice none 0 0,.string ⟨#[]⟩,.int .i64 0] 44)
 refine zzK6 e0 e1 eb es hs HC fun HE0 HE1 HB HSZ HS HCC=>?_
 have HCAP:Hid (sumN (t.items.map (capF f))+t.items.length<=1000000):=Lib.hid (by have:300+t.items.length+sumN (t.items.map (capF f))<=1000000:=hcap;omega)
 clear e0 e1 eb es hs ho hcap HC
 go_in
 go_upto_region 1 with fail
 generalize(w.alloc _).alloc _=W at *
 have c6:W.cell? ⟨w.heap.size,6,none⟩=some (.slice so t.items.length c):=by rw [cell_of_row _ _ _ _ _ _ HE0.out];rfl
 have hcs:=HCC.out t.items so c W (HS.out.mono HB.out fun _ _ h=>h.below HB.out) HCAP.out
 have HCS:=Lib.hid hcs
 clear hcs
 generalize hN:w.heap.size=N at *
 have HN:=Lib.hid hN
 clear hN
 go_upto_region 2 with(go_at_call 92;refine HCS.out.mono ?_;rintro e w2 ⟨⟨so',c',rfl,hsl⟩,hb2⟩;have g6:w2.cell? ⟨N,6,none⟩=some (.slice so t.items.length c):=(hb2.cell (p:=⟨N,6,none⟩) (lt_of_row HE0.out)).trans c6;have f6:w2.frozen? ⟨N,6,none⟩=false:=frozen_of_row _ _ 6 _ _ ((hb2.block _ (lt_of_row HE0.out)).trans HE0.out))
 have h0:=heap_setCell_same w2 N 6 _ _ (.slice so' t.items.length c') ((hb2.block _ (lt_of_row HE0.out)).trans HE0.out)
 have h1:=(heap_setCell_other w2 ⟨N,6,none⟩ (N+1) (.slice so' t.items.length c') (by simp)).trans ((hb2.block _ (lt_of_row HE1.out)).trans HE1.out)
 have hk: ∀b,W.heap.size<=b->(w2.setCell ⟨N,6,none⟩ (.slice so' t.items.length c')).heap[b]?=w2.heap[b]?:=fun b hb=>heap_setCell_other _ _ _ _ (by show b≠N;have:=HSZ.out;omega)
 have hbb:Below N w (w2.setCell ⟨N,6,none⟩ (.slice so' t.items.length c')):=(HB.out.trans (hb2.mono (by have:=HSZ.out;omega))).setCell (Nat.le_refl _) _
 have hsz2:(w2.setCell ⟨N,6,none⟩ (.slice so' t.items.length c')).heap.size=w2.heap.size:=by simp [World.setCell]
 generalize w2.setCell ⟨N,6,none⟩ (.slice so' t.items.length c')=w3 at *
 rename_i K hK
 refine wp_region_list ?_
 refine wpList_load_row rfl 44 (.tmp 1) rfl N rfl 44 _ _ _ h0 Tryz.underlying44 rfl (by kernel_rfl) ?_
 refine wpList_store_row rfl 44 (.tmp 2) (.tmp 7) rfl (N+1) #[.int .i64 t.kind,.int .i64 t.int,.int .i64 t.gen,.string t.name,.string t.func,.int .i64 t.arity,.slice so' t.items.length c',.string t.bytes,.int .i64 t.bits] rfl rfl 44 _ h1 (by kernel_rfl) rfl (by simp [Value.oneCell']) ?_
 refine wpList_nil ?_
 refine hK _ _ ?_
 refine wp_ret ?_
 refine bodyPost_ret (results_cell_row rfl _ _ (N+1) _ _ _ _ rfl (setRow_heap _ _ _ _ _ _ h1) Tryz.underlying44 rfl (by kernel_rfl)) rfl ?_
 have hkk: ∀b,W.heap.size<=b->b<w2.heap.size->(w3.setRow (N+1) #[.int .i64 t.kind,.int .i64 t.int,.int .i64 t.gen,.string t.name,.string t.func,.int .i64 t.arity,.slice so' t.items.length c',.string t.bytes,.int .i64 t.bits]).heap[b]?=w2.heap[b]?:=fun b hb _=>(setRow_other _ _ _ _ (by have:=HSZ.out;omega)).trans (hk b hb)
 have hs3:(w3.setRow (N+1) #[.int .i64 t.kind,.int .i64 t.int,.int .i64 t.gen,.string t.name,.string t.func,.int .i64 t.arity,.slice so' t.items.length c',.string t.bytes,.int .i64 t.bits]).heap.size=w3.heap.size:=by simp [World.setRow]
 rw [HN.out]
 exact⟨⟨so',c',rfl,hsl.kept hkk (by have:=HSZ.out;omega) (by omega) fun a e cs x ha he hx=>hx.kept (fun b b1 b2=>hkk b (Nat.le_trans ha b1) (Nat.lt_of_lt_of_le b2 he)) (Nat.le_refl _) (Nat.le_refl _)⟩,below_setRow hbb (Nat.le_succ _) _⟩
theorem SepT.below {w w':World} {f lo hi:Nat} {cs:List Value} {t:Tm} (h:SepT w f lo hi cs t) (hb:Below w.heap.size w w') (hh:hi<=w.heap.size):SepT w' f lo hi cs t:=h.kept (fun b _ b2=>hb.block b (Nat.lt_of_lt_of_le b2 hh)) (Nat.le_refl _) (Nat.le_refl _)
theorem cap_mem {f:Nat} {l:List Tm} {t:Tm} (h:t∈l):capF f t<=sumN (l.map (capF f)):=by
 induction l with
 |nil=>cases h
 |cons x l ih=>
  show _<=capF f x+sumN (l.map (capF f))
  rcases List.mem_cons.1 h with rfl|h
  ·omega
  ·have:=ih h;omega
theorem copies_of (f:Nat) (HC: ∀g,f=g+1->CopyP g):CopiesP f:=by
 intro l ao c w hs hcap
 refine zzK3 hs HC hcap fun HS HCC HCAP=>?_
 have hl:l.length<=1000000:=by omega
 clear hs HC hcap
 obtain⟨i0,hi,hz0,hz1,hz2⟩:=info_parts infoTm
 refine zzK4 hi hz0 hz1 hz2 fun HI HZ HZ1 HZ2=>?_
 clear hi hz0 hz1 hz2
 go_in
 go_upto_region 2 with(at_make;refine wpList_make_own _ rfl _ _ 26 rfl w.heap.size 44 i0 _ 9 Tryz.underlying26 HI.out HZ.out HZ1.out .i64 .i64 (l.length:Int) l.length rfl rfl rfl (by rw [HZ2.out];omega) (by unfold maxLen;omega) (Nat.le_refl _) ?_;intro w1 ho1 hg1)
 have hb1:Below w.heap.size w w1:=(Below.refl _ _).grown hg1 (Nat.le_refl _) (fun k e=>by cases e)
 have HA:Hid (AccS w1 (SepT w1 f) 44 9 w.heap.size (.slice (some ⟨w.heap.size,0,none⟩) 0 l.length) (l.take 0)):=Lib.hid (by rw [List.take_zero];exact AccS.made ho1)
 have HB:=Lib.hid hb1
 clear ho1 hg1 hb1
 obtain⟨V0,hV0⟩: ∃V0,V0=Value.slice (some ⟨w.heap.size,0,none⟩) 0 l.length:=⟨_,rfl⟩
 rw [<-hV0]at HA ⊢
 clear hV0
 generalize hN:w.heap.size=N at *
 have HN:=Lib.hid hN
 clear hN
 go_wp2_with fail
 go_loopw [11,3] (fun iv ov wr=> ∃(k:Nat),k<=l.length/\iv= .int .i64 k/\Hid (AccS wr (SepT wr f) 44 9 N ov (l.take k))/\Hid (Below N w wr)) (fun i _ _=>l.length-(intOf i).toNat)
 case atStart=>exact⟨0,Nat.zero_le _,rfl,HA,HB⟩
 case round=>
  obtain⟨k,hk,rfl,HK,HW⟩:=hrel
  rename World=>wr
  rename Value=>ov
  by_cases hlt:k<l.length
  ·cases f with
   |zero=>have:=HS.out.zero;subst this;simp at hlt
   |succ g=>
    have hbw:Below w.heap.size w wr:=by rw [HN.out];exact HW.out
    have hs2:=HS.out.tms hbw
    obtain⟨b,off,ai,ci,hao,hb,q0,q1,q2,q3,q4,q5,q6,q7,q8,hit,hok⟩:=hs2.tm hlt
    subst hao
    have hct:capF (g+1) l[k]<=1000000:=by have:=cap_mem (f:=g+1) (List.getElem_mem hlt);have:=HCAP.out;omega
    have htk:l.take (k+1)=l.take k++ [l[k]]:=by rw [List.take_add_one,List.getElem?_eq_getElem hlt];rfl
    have hlk:(l.take k).length=k:=by rw [List.length_take];omega
    generalize l[k]=t at *
    obtain⟨xs,a,e,ho,hv,hx⟩:=HK.out
    rw [hlk]at ho hv
    obtain⟨ao',c0,hov,-⟩:=HK.out.sl
    rw [hlk]at hov
    have hba:=(Below.refl wr.heap.size wr).alloc (Nat.le_refl _) (.cells #[.int .i64 t.kind,.int .i64 t.int,.int .i64 t.gen,.string t.name,.string t.func,.int .i64 t.arity,.slice ai t.items.length ci,.string t.bytes,.int .i64 t.bits] 44)
    have hcp:=HCC.out g rfl t ai ci _ (hit.tms hba) hok hct
    refine zzK8 hcp htk hlk ho hv hx hba hok fun HCP HTK HLK HO HV HX HBA HOK=>?_
    clear hcp hit hct htk hlk ho hv hx hba hs2 hok HK
    subst hov
    have hbx:=heap_alloc_new wr (.cells #[.int .i64 t.kind,.int .i64 t.int,.int .i64 t.gen,.string t.name,.string t.func,.int .i64 t.arity,.slice ai t.items.length ci,.string t.bytes,.int .i64 t.bits] 44)
    go_upto_region 5 with fail
    generalize wr.alloc _=Wb at *
    obtain⟨x0,x1,x2,x3,x4,x5,x6,x7,x8⟩:=nine_cells hbx
    clear q0 q1 q2 q3 q4 q5 q6 q7 q8
    go_upto_region 6 with(first
     |(go_at_call 43;refine HCP.out.mono ?_;rintro e2 w2 ⟨⟨so',c',rfl,hsl⟩,hb2⟩;have hb3:Below wr.heap.size wr (w2.alloc (.cells #[.int .i64 t.kind,.int .i64 t.int,.int .i64 t.gen,.string t.name,.string t.func,.int .i64 t.arity,.slice so' t.items.length c',.string t.bytes,.int .i64 t.bits] 44)):=(HBA.out.trans (hb2.mono HBA.out.size)).alloc (Nat.le_trans HBA.out.size hb2.size) _;have ho3:=HO.out.kept (grownBy_below hb3 none) (by cases ao'<;>simp [Value.ownBlock]);refine zzK4 hsl hb2 hb3 ho3 fun HSL HB2 HB3 HO3=>?_;clear hsl hb2 hb3 ho3)
     |(at_builtin;refine wpList_append_lies _ rfl (.tmp 15) (.tmp 18) 26 rfl N 44 i0 _ 9 112 Tryz.underlying26 HI.out HZ.out HZ1.out HZ2.out rfl (by decide) _ k xs rfl HO3.out ⟨w2.heap.size,0,none⟩ 1 1 (tmRow t so' c') rfl rfl (World.news_of_block (heap_alloc_new _ _)) (by simp [tmRow,Value.oneCell']) (by decide) (by unfold maxLen;omega) (by omega) (Nat.le_trans (HN.out▸hbw.size) HB3.out.size) _ rfl ?_;intro g2 cap w4 ho4 hg4 hat4 hlt4))
    have hacc:AccS w4 (SepT w4 (g+1)) 44 9 N (.slice (some ⟨g2,0,none⟩) ((l.take k).length+1) cap) (l.take k++ [t]):=by
     refine AccS.app (w0:=wr) (R:=SepT _ (g+1)) (lo:=Wb.heap.size) (hi:=w2.heap.size) (v:=.slice ao' k c0) (by rw [HLK.out];exact HO3.out) (by rw [HLK.out];exact HV.out) (fun j hj=>?_) HBA.out.size HB2.out.size (by simp) (HN.out▸hbw.size) (fun q hq=>(HO.out.lt q hq).2) rfl ⟨⟨so',c',rfl,?_⟩,HOK.out⟩ hg4 hat4 (by rw [HLK.out];exact ho4) (fun a e cs x hn he hx=>hx.kept (fun q q1 q2=>hg4.block q (Nat.lt_of_lt_of_le q2 he) fun e2=>by have:=hn q e2.symm;omega) (Nat.le_refl _) (Nat.le_refl _))
     ·obtain⟨cs,k1,k2,k3⟩:=HX.out j hj
      exact⟨cs,k1,k2,k3.below HB3.out (by have:=(HV.out j (by rw [HLK.out]at hj;exact hj)).2.2.1;exact this)⟩
     ·exact HSL.out.kept (fun q _ q2=>Below.heap_alloc _ _ _ q2) (Nat.le_refl _) (Nat.le_refl _) fun a e cs x _ he hx=>hx.kept (fun q _ q2=>Below.heap_alloc _ _ _ (Nat.lt_of_lt_of_le q2 he)) (Nat.le_refl _) (Nat.le_refl _)
    rw [HLK.out,<-HTK.out]at hacc
    have hb4:Below N w w4:=(HW.out.trans (HB3.out.mono (HN.out▸hbw.size))).grown hg4 (Nat.le_trans (HN.out▸hbw.size) HB3.out.size) (fun q hq=>(HO.out.lt q hq).1)
    have HAC:=Lib.hid hacc;have HB4:=Lib.hid hb4
    clear hacc hb4 ho4 hg4 hat4 hlt4 x0 x1 x2 x3 x4 x5 x6 x7 x8 hbx
    go_wp2_with fail
    go_roundw
    case rel=>exact⟨k+1,by omega,by go_num,HAC,HB4⟩
    case measure=>simp [intOf];omega
  ·have hkl:k=l.length:=by omega
   subst hkl
   obtain⟨ao',c',rfl,hsl⟩:=HK.out.sl
   rw [List.take_length]at hsl ⊢
   have HSL:=Lib.hid hsl
   clear hsl
   go_wp2_with fail
   go_ret
   rw [HN.out]
   exact⟨⟨ao',c',rfl,HSL.out⟩,HW.out⟩
theorem copies_any: ∀f,CopiesP f
 |0=>copies_of 0 (fun g h=>by cases h)
 |f+1=>copies_of (f+1) (fun g h=>by cases h;exact copy_of f (copies_any f))
theorem copy_any (f:Nat):CopyP f:=copy_of f (copies_any f)
section
variable {P:Program} {ρ:Go.Shelf.Ren}
theorem clone_zero (L:SlLaysE0.n41 P ρ) (i0:TypeInfo) (z:Value) (size bytes:Nat) (hi:P.info? (ρ.t 23)=some i0) (hz0:i0.zero=some z) (hz1:i0.size=size) (hz2:i0.bytes=bytes) (hzs:z.cells.size=size) (hsz:0<size)
  (z23: ∀w,(Go.sizeOf (ρ.t 23)).run P w= .ok size w) (a:Addr) (c:Nat) (w:World):
  Calls P (ρ.f 41) #[.slice (some a) 0 c] w fun e w'=> ∃v',e= .returned v'/\w'.ownsRow w.heap.size (ρ.t 23) size v' 0 []/\v'≠ .slice none 0 0/\Below w.heap.size w w':=by
 have mixed:=L.mixed;have t4:=L.t4;have a4:=L.a4;have z4:=L.z4;have v4:=L.v4;have t22:=L.t22;have a22:=L.a22;have z22:=L.z22;have v22:=L.v22
 have q22: ∀(w:World) (a:zzA) (n c n' c':Nat),(binOp .eql (ρ.t 22) (.slice a n c) (.slice none n' c')).run P w= .ok (.bool a.isNone) w:=fun w a n c n' c'=>Lib.run_eql_slice_nil w _ _ a n c n' c' L.t22
 have u22: ∀w,Sem.run P (underlying (ρ.t 22)) w= .ok (TypeDesc.slice (ρ.t 23)) w:=run_underlying t22
 obtain⟨_,_,FG⟩:=L.f41
 go_enter FG,SlBodyN.n41_ntmps ρ
 go_wp2_with (at_builtin;refine wpList_append_own _ rfl _ _ (ρ.t 22) rfl w.heap.size (ρ.t 23) i0 z size bytes t22 hi hz0 hz1 hz2 hzs hsz _ _ _ rfl (World.ownsRow_made w #[] 0 (Nat.le_refl _) (Nat.zero_le _) (by simp)) a 0 c [] rfl ?qc1 ?qc2 ?qc3 ?qc4 ?qc5 ?qc6 ?_)
 case qc1=>simp
 case qc2=>intro j u hj;simp at hj
 case qc3=>simp
 case qc4=>exact Nat.zero_le _
 case qc5=>simp
 case qc6=>simp
 intro v' w1 hown hgrow hnil
 go_wp2
 go_ret
 refine⟨v',rfl,by simpa using hown,?_,?_⟩
 ·exact hnil
 ·exact((Below.refl _ w).alloc (Nat.le_refl _) _).grown hgrow (by simp) (by intro k hk;simp [Value.ownBlock]at hk;omega)
end
def LenB (u:RUnit):Prop:=u.funcs.length*40<=140737488355328/\u.funs.length*24<=140737488355328/\u.code.length*136<=140737488355328/\ ∀x∈u.code,x.src.length*16<=140737488355328/\x.cases.length*16<=140737488355328/\x.segs.length*48<=140737488355328
theorem sls_owned {α:Type} {w:World} {T:TypeId} {size B:Nat} {v:Value} {vs:List Value} {R:List Value->α->Prop} {l:List α} (h:w.ownsRow B T size v l.length vs) (hr: ∀j (h:j<l.length),∃cs:List Value,cs.length=size/\(∀i,i<size->vs[j*size+i]?=cs[i]?)/\R cs l[j]):
  ∃ao c,v= .slice ao l.length c/\SlS w (fun _ _=>R) T size B w.heap.size ao l:=by
 refine AccS.sl ⟨vs,fun _=>B,fun _=>B,h,fun j hj=>⟨Nat.le_refl _,Nat.le_refl _,?_,fun g hg=>.inr (h.lt g hg).1,fun _ _=>Nat.le_refl _⟩,hr⟩
 rcases h.2 with⟨_,h0⟩|⟨g,cap,cur,rfl,hB,hg,_⟩
 ·omega
 ·exact Nat.le_trans hB (Nat.le_of_lt (lt_of_row hg))
def renTerm:Go.Shelf.Ren:=⟨fun|41=>42|n=>n,fun|22=>26|23=>44|4=>4|n=>n,fun|n=>n⟩
theorem layTerm:Go.Proofs.SlLaysE0.n41 Tryz.prog renTerm:={
 mixed:=by kernel_rfl
 f41:=⟨Tryz.f42.name,by decide,Tryz.func42.trans (congrArg some (by kernel_rfl))⟩
 t4:=Tryz.underlying4
 a4:=Tryz.isAgg4
 z4:=Tryz.sizeOf4
 v4:=Tryz.zeroValue4
 t22:=Tryz.underlying26
 a22:=Tryz.isAgg26
 z22:=Tryz.sizeOf26
 v22:=Tryz.zeroValue26}
theorem infoCTerm:(Tryz.prog.info? 44).map (fun i=>(i.zero,i.size,i.bytes))=some (some (.agg #[.int .i64 0,.int .i64 0,.int .i64 0,.string ⟨#[]⟩,.string ⟨#[]⟩,.int .i64 0,.slice none 0 0,.string ⟨#[]⟩,.int .i64 0]),9,112):=by kernel_rfl
theorem cloneTerm {R:List Value->Tm->Prop} (hone: ∀cs a,R cs a-> ∀v∈cs,v.oneCell'=true) (l:List Tm) (ao:zzA) (c:Nat) (w:World) (h:SlAt w 9 R ao l) (hl:l.length*112<=140737488355328):
  Calls Tryz.prog 42 #[.slice ao l.length c] w fun e w'=>(∃ao' c',e= .returned (.slice ao' l.length c')/\SlS w' (fun _ _=>R) 44 9 w.heap.size w'.heap.size ao' l)/\Below w.heap.size w w':=by
 obtain⟨i0,hi,hz0,hz1,hz2⟩:=info_parts infoCTerm
 by_cases hnil:l= []
 ·subst hnil
  cases ao with
  |none=>
   refine(AnyE.slices_Clone_nil layTerm 0 c w).mono ?_
   rintro e w' ⟨rfl,rfl⟩
   exact⟨⟨none,0,rfl,.inl rfl⟩,Below.refl _ _⟩
  |some a=>
   refine(clone_zero layTerm i0 _ 9 112 hi hz0 hz1 hz2 rfl (by decide) Tryz.sizeOf44 a c w).mono ?_
   rintro e w' ⟨v,rfl,ho,-,hb⟩
   obtain⟨ao',c',rfl,hs⟩:=sls_owned (R:=R) (l:=[]) ho (fun j hj=>absurd hj (Nat.not_lt_zero _))
   exact⟨⟨ao',c',rfl,hs⟩,hb⟩
 ·obtain⟨b,off,rfl,hb,hr⟩:=h.rows hnil
  obtain⟨vs,e1,e2,e3⟩:=rows_values hr hone
  refine(AnyE.slices_Clone layTerm i0 _ 9 112 hi hz0 hz1 hz2 rfl (by decide) Tryz.sizeOf44 b off l.length c vs w e1 (by unfold maxLen;omega) (by omega) (fun j u hj=>?_) e3).mono ?_
  ·have hj2:j<l.length*9:=by have:=(List.getElem?_eq_some_iff.1 hj).1;omega
   rw [e2 j hj2,hj]
  ·rintro e w' ⟨v,rfl,ho,-,hbw⟩
   have hrow: ∀j (h:j<l.length),∃cs:List Value,cs.length=9/\(∀i,i<9->vs[j*9+i]?=cs[i]?)/\R cs l[j]:=fun j hj=>by
    obtain⟨cs,k1,k2,k3⟩:=hr j hj
    exact⟨cs,k1,fun i hi=>by rw [<-k2 i hi,<-e2 (j*9+i) (by omega),Nat.add_assoc],k3⟩
   obtain⟨ao',c',rfl,hs⟩:=sls_owned ho hrow
   exact⟨⟨ao',c',rfl,hs⟩,hbw⟩
def renFunc:Go.Shelf.Ren:=⟨fun|41=>44|n=>n,fun|22=>27|23=>75|4=>4|n=>n,fun|n=>n⟩
theorem layFunc:Go.Proofs.SlLaysE0.n41 Tryz.prog renFunc:={
 mixed:=by kernel_rfl
 f41:=⟨Tryz.f44.name,by decide,Tryz.func44.trans (congrArg some (by kernel_rfl))⟩
 t4:=Tryz.underlying4
 a4:=Tryz.isAgg4
 z4:=Tryz.sizeOf4
 v4:=Tryz.zeroValue4
 t22:=Tryz.underlying27
 a22:=Tryz.isAgg27
 z22:=Tryz.sizeOf27
 v22:=Tryz.zeroValue27}
theorem infoCFunc:(Tryz.prog.info? 75).map (fun i=>(i.zero,i.size,i.bytes))=some (some (.agg #[.string ⟨#[]⟩,.int .i64 0,.bool false,.int .i64 0]),4,40):=by kernel_rfl
theorem cloneFunc {R:List Value->RFunc->Prop} (hone: ∀cs a,R cs a-> ∀v∈cs,v.oneCell'=true) (l:List RFunc) (ao:zzA) (c:Nat) (w:World) (h:SlAt w 4 R ao l) (hl:l.length*40<=140737488355328):
  Calls Tryz.prog 44 #[.slice ao l.length c] w fun e w'=>(∃ao' c',e= .returned (.slice ao' l.length c')/\SlS w' (fun _ _=>R) 75 4 w.heap.size w'.heap.size ao' l)/\Below w.heap.size w w':=by
 obtain⟨i0,hi,hz0,hz1,hz2⟩:=info_parts infoCFunc
 by_cases hnil:l= []
 ·subst hnil
  cases ao with
  |none=>
   refine(AnyE.slices_Clone_nil layFunc 0 c w).mono ?_
   rintro e w' ⟨rfl,rfl⟩
   exact⟨⟨none,0,rfl,.inl rfl⟩,Below.refl _ _⟩
  |some a=>
   refine(clone_zero layFunc i0 _ 4 40 hi hz0 hz1 hz2 rfl (by decide) Tryz.sizeOf75 a c w).mono ?_
   rintro e w' ⟨v,rfl,ho,-,hb⟩
   obtain⟨ao',c',rfl,hs⟩:=sls_owned (R:=R) (l:=[]) ho (fun j hj=>absurd hj (Nat.not_lt_zero _))
   exact⟨⟨ao',c',rfl,hs⟩,hb⟩
 ·obtain⟨b,off,rfl,hb,hr⟩:=h.rows hnil
  obtain⟨vs,e1,e2,e3⟩:=rows_values hr hone
  refine(AnyE.slices_Clone layFunc i0 _ 4 40 hi hz0 hz1 hz2 rfl (by decide) Tryz.sizeOf75 b off l.length c vs w e1 (by unfold maxLen;omega) (by omega) (fun j u hj=>?_) e3).mono ?_
  ·have hj2:j<l.length*4:=by have:=(List.getElem?_eq_some_iff.1 hj).1;omega
   rw [e2 j hj2,hj]
  ·rintro e w' ⟨v,rfl,ho,-,hbw⟩
   have hrow: ∀j (h:j<l.length),∃cs:List Value,cs.length=4/\(∀i,i<4->vs[j*4+i]?=cs[i]?)/\R cs l[j]:=fun j hj=>by
    obtain⟨cs,k1,k2,k3⟩:=hr j hj
    exact⟨cs,k1,fun i hi=>by rw [<-k2 i hi,<-e2 (j*4+i) (by omega),Nat.add_assoc],k3⟩
   obtain⟨ao',c',rfl,hs⟩:=sls_owned ho hrow
   exact⟨⟨ao',c',rfl,hs⟩,hbw⟩
def renFun:Go.Shelf.Ren:=⟨fun|41=>45|n=>n,fun|22=>28|23=>87|4=>4|n=>n,fun|n=>n⟩
theorem layFun:Go.Proofs.SlLaysE0.n41 Tryz.prog renFun:={
 mixed:=by kernel_rfl
 f41:=⟨Tryz.f45.name,by decide,Tryz.func45.trans (congrArg some (by kernel_rfl))⟩
 t4:=Tryz.underlying4
 a4:=Tryz.isAgg4
 z4:=Tryz.sizeOf4
 v4:=Tryz.zeroValue4
 t22:=Tryz.underlying28
 a22:=Tryz.isAgg28
 z22:=Tryz.sizeOf28
 v22:=Tryz.zeroValue28}
theorem infoCFun:(Tryz.prog.info? 87).map (fun i=>(i.zero,i.size,i.bytes))=some (some (.agg #[.int .i64 0,.int .i64 0,.int .i64 0]),3,24):=by kernel_rfl
theorem cloneFun {R:List Value->RFun->Prop} (hone: ∀cs a,R cs a-> ∀v∈cs,v.oneCell'=true) (l:List RFun) (ao:zzA) (c:Nat) (w:World) (h:SlAt w 3 R ao l) (hl:l.length*24<=140737488355328):
  Calls Tryz.prog 45 #[.slice ao l.length c] w fun e w'=>(∃ao' c',e= .returned (.slice ao' l.length c')/\SlS w' (fun _ _=>R) 87 3 w.heap.size w'.heap.size ao' l)/\Below w.heap.size w w':=by
 obtain⟨i0,hi,hz0,hz1,hz2⟩:=info_parts infoCFun
 by_cases hnil:l= []
 ·subst hnil
  cases ao with
  |none=>
   refine(AnyE.slices_Clone_nil layFun 0 c w).mono ?_
   rintro e w' ⟨rfl,rfl⟩
   exact⟨⟨none,0,rfl,.inl rfl⟩,Below.refl _ _⟩
  |some a=>
   refine(clone_zero layFun i0 _ 3 24 hi hz0 hz1 hz2 rfl (by decide) Tryz.sizeOf87 a c w).mono ?_
   rintro e w' ⟨v,rfl,ho,-,hb⟩
   obtain⟨ao',c',rfl,hs⟩:=sls_owned (R:=R) (l:=[]) ho (fun j hj=>absurd hj (Nat.not_lt_zero _))
   exact⟨⟨ao',c',rfl,hs⟩,hb⟩
 ·obtain⟨b,off,rfl,hb,hr⟩:=h.rows hnil
  obtain⟨vs,e1,e2,e3⟩:=rows_values hr hone
  refine(AnyE.slices_Clone layFun i0 _ 3 24 hi hz0 hz1 hz2 rfl (by decide) Tryz.sizeOf87 b off l.length c vs w e1 (by unfold maxLen;omega) (by omega) (fun j u hj=>?_) e3).mono ?_
  ·have hj2:j<l.length*3:=by have:=(List.getElem?_eq_some_iff.1 hj).1;omega
   rw [e2 j hj2,hj]
  ·rintro e w' ⟨v,rfl,ho,-,hbw⟩
   have hrow: ∀j (h:j<l.length),∃cs:List Value,cs.length=3/\(∀i,i<3->vs[j*3+i]?=cs[i]?)/\R cs l[j]:=fun j hj=>by
    obtain⟨cs,k1,k2,k3⟩:=hr j hj
    exact⟨cs,k1,fun i hi=>by rw [<-k2 i hi,<-e2 (j*3+i) (by omega),Nat.add_assoc],k3⟩
   obtain⟨ao',c',rfl,hs⟩:=sls_owned ho hrow
   exact⟨⟨ao',c',rfl,hs⟩,hbw⟩
def renIns:Go.Shelf.Ren:=⟨fun|41=>46|n=>n,fun|22=>29|23=>73|4=>4|n=>n,fun|n=>n⟩
theorem layIns:Go.Proofs.SlLaysE0.n41 Tryz.prog renIns:={
 mixed:=by kernel_rfl
 f41:=⟨Tryz.f46.name,by decide,Tryz.func46.trans (congrArg some (by kernel_rfl))⟩
 t4:=Tryz.underlying4
 a4:=Tryz.isAgg4
 z4:=Tryz.sizeOf4
 v4:=Tryz.zeroValue4
 t22:=Tryz.underlying29
 a22:=Tryz.isAgg29
 z22:=Tryz.sizeOf29
 v22:=Tryz.zeroValue29}
theorem infoCIns:(Tryz.prog.info? 73).map (fun i=>(i.zero,i.size,i.bytes))=some (some (.agg #[.int .i64 0,.int .i64 0,.int .i64 0,.slice none 0 0,.int .i64 0,.int .i64 0,.int .i64 0,.string ⟨#[]⟩,.slice none 0 0,.slice none 0 0]),10,136):=by kernel_rfl
theorem cloneIns {R:List Value->RIns->Prop} (hone: ∀cs a,R cs a-> ∀v∈cs,v.oneCell'=true) (l:List RIns) (ao:zzA) (c:Nat) (w:World) (h:SlAt w 10 R ao l) (hl:l.length*136<=140737488355328):
  Calls Tryz.prog 46 #[.slice ao l.length c] w fun e w'=>(∃ao' c',e= .returned (.slice ao' l.length c')/\SlS w' (fun _ _=>R) 73 10 w.heap.size w'.heap.size ao' l)/\Below w.heap.size w w':=by
 obtain⟨i0,hi,hz0,hz1,hz2⟩:=info_parts infoCIns
 by_cases hnil:l= []
 ·subst hnil
  cases ao with
  |none=>
   refine(AnyE.slices_Clone_nil layIns 0 c w).mono ?_
   rintro e w' ⟨rfl,rfl⟩
   exact⟨⟨none,0,rfl,.inl rfl⟩,Below.refl _ _⟩
  |some a=>
   refine(clone_zero layIns i0 _ 10 136 hi hz0 hz1 hz2 rfl (by decide) Tryz.sizeOf73 a c w).mono ?_
   rintro e w' ⟨v,rfl,ho,-,hb⟩
   obtain⟨ao',c',rfl,hs⟩:=sls_owned (R:=R) (l:=[]) ho (fun j hj=>absurd hj (Nat.not_lt_zero _))
   exact⟨⟨ao',c',rfl,hs⟩,hb⟩
 ·obtain⟨b,off,rfl,hb,hr⟩:=h.rows hnil
  obtain⟨vs,e1,e2,e3⟩:=rows_values hr hone
  refine(AnyE.slices_Clone layIns i0 _ 10 136 hi hz0 hz1 hz2 rfl (by decide) Tryz.sizeOf73 b off l.length c vs w e1 (by unfold maxLen;omega) (by omega) (fun j u hj=>?_) e3).mono ?_
  ·have hj2:j<l.length*10:=by have:=(List.getElem?_eq_some_iff.1 hj).1;omega
   rw [e2 j hj2,hj]
  ·rintro e w' ⟨v,rfl,ho,-,hbw⟩
   have hrow: ∀j (h:j<l.length),∃cs:List Value,cs.length=10/\(∀i,i<10->vs[j*10+i]?=cs[i]?)/\R cs l[j]:=fun j hj=>by
    obtain⟨cs,k1,k2,k3⟩:=hr j hj
    exact⟨cs,k1,fun i hi=>by rw [<-k2 i hi,<-e2 (j*10+i) (by omega),Nat.add_assoc],k3⟩
   obtain⟨ao',c',rfl,hs⟩:=sls_owned ho hrow
   exact⟨⟨ao',c',rfl,hs⟩,hbw⟩
def renArg:Go.Shelf.Ren:=⟨fun|41=>47|n=>n,fun|22=>69|23=>68|4=>4|n=>n,fun|n=>n⟩
theorem layArg:Go.Proofs.SlLaysE0.n41 Tryz.prog renArg:={
 mixed:=by kernel_rfl
 f41:=⟨Tryz.f47.name,by decide,Tryz.func47.trans (congrArg some (by kernel_rfl))⟩
 t4:=Tryz.underlying4
 a4:=Tryz.isAgg4
 z4:=Tryz.sizeOf4
 v4:=Tryz.zeroValue4
 t22:=Tryz.underlying69
 a22:=Tryz.isAgg69
 z22:=Tryz.sizeOf69
 v22:=Tryz.zeroValue69}
theorem infoCArg:(Tryz.prog.info? 68).map (fun i=>(i.zero,i.size,i.bytes))=some (some (.agg #[.int .i64 0,.int .i64 0]),2,16):=by kernel_rfl
theorem cloneArg {R:List Value->RArg->Prop} (hone: ∀cs a,R cs a-> ∀v∈cs,v.oneCell'=true) (l:List RArg) (ao:zzA) (c:Nat) (w:World) (h:SlAt w 2 R ao l) (hl:l.length*16<=140737488355328):
  Calls Tryz.prog 47 #[.slice ao l.length c] w fun e w'=>(∃ao' c',e= .returned (.slice ao' l.length c')/\SlS w' (fun _ _=>R) 68 2 w.heap.size w'.heap.size ao' l)/\Below w.heap.size w w':=by
 obtain⟨i0,hi,hz0,hz1,hz2⟩:=info_parts infoCArg
 by_cases hnil:l= []
 ·subst hnil
  cases ao with
  |none=>
   refine(AnyE.slices_Clone_nil layArg 0 c w).mono ?_
   rintro e w' ⟨rfl,rfl⟩
   exact⟨⟨none,0,rfl,.inl rfl⟩,Below.refl _ _⟩
  |some a=>
   refine(clone_zero layArg i0 _ 2 16 hi hz0 hz1 hz2 rfl (by decide) Tryz.sizeOf68 a c w).mono ?_
   rintro e w' ⟨v,rfl,ho,-,hb⟩
   obtain⟨ao',c',rfl,hs⟩:=sls_owned (R:=R) (l:=[]) ho (fun j hj=>absurd hj (Nat.not_lt_zero _))
   exact⟨⟨ao',c',rfl,hs⟩,hb⟩
 ·obtain⟨b,off,rfl,hb,hr⟩:=h.rows hnil
  obtain⟨vs,e1,e2,e3⟩:=rows_values hr hone
  refine(AnyE.slices_Clone layArg i0 _ 2 16 hi hz0 hz1 hz2 rfl (by decide) Tryz.sizeOf68 b off l.length c vs w e1 (by unfold maxLen;omega) (by omega) (fun j u hj=>?_) e3).mono ?_
  ·have hj2:j<l.length*2:=by have:=(List.getElem?_eq_some_iff.1 hj).1;omega
   rw [e2 j hj2,hj]
  ·rintro e w' ⟨v,rfl,ho,-,hbw⟩
   have hrow: ∀j (h:j<l.length),∃cs:List Value,cs.length=2/\(∀i,i<2->vs[j*2+i]?=cs[i]?)/\R cs l[j]:=fun j hj=>by
    obtain⟨cs,k1,k2,k3⟩:=hr j hj
    exact⟨cs,k1,fun i hi=>by rw [<-k2 i hi,<-e2 (j*2+i) (by omega),Nat.add_assoc],k3⟩
   obtain⟨ao',c',rfl,hs⟩:=sls_owned ho hrow
   exact⟨⟨ao',c',rfl,hs⟩,hbw⟩
def renCase:Go.Shelf.Ren:=⟨fun|41=>48|n=>n,fun|22=>70|23=>124|4=>4|n=>n,fun|n=>n⟩
theorem layCase:Go.Proofs.SlLaysE0.n41 Tryz.prog renCase:={
 mixed:=by kernel_rfl
 f41:=⟨Tryz.f48.name,by decide,Tryz.func48.trans (congrArg some (by kernel_rfl))⟩
 t4:=Tryz.underlying4
 a4:=Tryz.isAgg4
 z4:=Tryz.sizeOf4
 v4:=Tryz.zeroValue4
 t22:=Tryz.underlying70
 a22:=Tryz.isAgg70
 z22:=Tryz.sizeOf70
 v22:=Tryz.zeroValue70}
theorem infoCCase:(Tryz.prog.info? 124).map (fun i=>(i.zero,i.size,i.bytes))=some (some (.agg #[.int .i64 0,.int .i64 0]),2,16):=by kernel_rfl
theorem cloneCase {R:List Value->RCase->Prop} (hone: ∀cs a,R cs a-> ∀v∈cs,v.oneCell'=true) (l:List RCase) (ao:zzA) (c:Nat) (w:World) (h:SlAt w 2 R ao l) (hl:l.length*16<=140737488355328):
  Calls Tryz.prog 48 #[.slice ao l.length c] w fun e w'=>(∃ao' c',e= .returned (.slice ao' l.length c')/\SlS w' (fun _ _=>R) 124 2 w.heap.size w'.heap.size ao' l)/\Below w.heap.size w w':=by
 obtain⟨i0,hi,hz0,hz1,hz2⟩:=info_parts infoCCase
 by_cases hnil:l= []
 ·subst hnil
  cases ao with
  |none=>
   refine(AnyE.slices_Clone_nil layCase 0 c w).mono ?_
   rintro e w' ⟨rfl,rfl⟩
   exact⟨⟨none,0,rfl,.inl rfl⟩,Below.refl _ _⟩
  |some a=>
   refine(clone_zero layCase i0 _ 2 16 hi hz0 hz1 hz2 rfl (by decide) Tryz.sizeOf124 a c w).mono ?_
   rintro e w' ⟨v,rfl,ho,-,hb⟩
   obtain⟨ao',c',rfl,hs⟩:=sls_owned (R:=R) (l:=[]) ho (fun j hj=>absurd hj (Nat.not_lt_zero _))
   exact⟨⟨ao',c',rfl,hs⟩,hb⟩
 ·obtain⟨b,off,rfl,hb,hr⟩:=h.rows hnil
  obtain⟨vs,e1,e2,e3⟩:=rows_values hr hone
  refine(AnyE.slices_Clone layCase i0 _ 2 16 hi hz0 hz1 hz2 rfl (by decide) Tryz.sizeOf124 b off l.length c vs w e1 (by unfold maxLen;omega) (by omega) (fun j u hj=>?_) e3).mono ?_
  ·have hj2:j<l.length*2:=by have:=(List.getElem?_eq_some_iff.1 hj).1;omega
   rw [e2 j hj2,hj]
  ·rintro e w' ⟨v,rfl,ho,-,hbw⟩
   have hrow: ∀j (h:j<l.length),∃cs:List Value,cs.length=2/\(∀i,i<2->vs[j*2+i]?=cs[i]?)/\R cs l[j]:=fun j hj=>by
    obtain⟨cs,k1,k2,k3⟩:=hr j hj
    exact⟨cs,k1,fun i hi=>by rw [<-k2 i hi,<-e2 (j*2+i) (by omega),Nat.add_assoc],k3⟩
   obtain⟨ao',c',rfl,hs⟩:=sls_owned ho hrow
   exact⟨⟨ao',c',rfl,hs⟩,hbw⟩
def renSeg:Go.Shelf.Ren:=⟨fun|41=>49|n=>n,fun|22=>71|23=>127|4=>4|n=>n,fun|n=>n⟩
theorem laySeg:Go.Proofs.SlLaysE0.n41 Tryz.prog renSeg:={
 mixed:=by kernel_rfl
 f41:=⟨Tryz.f49.name,by decide,Tryz.func49.trans (congrArg some (by kernel_rfl))⟩
 t4:=Tryz.underlying4
 a4:=Tryz.isAgg4
 z4:=Tryz.sizeOf4
 v4:=Tryz.zeroValue4
 t22:=Tryz.underlying71
 a22:=Tryz.isAgg71
 z22:=Tryz.sizeOf71
 v22:=Tryz.zeroValue71}
theorem infoCSeg:(Tryz.prog.info? 127).map (fun i=>(i.zero,i.size,i.bytes))=some (some (.agg #[.int .i64 0,.int .i64 0,.int .i64 0,.int .i64 0,.int .i64 0,.bool false]),6,48):=by kernel_rfl
theorem cloneSeg {R:List Value->RSeg->Prop} (hone: ∀cs a,R cs a-> ∀v∈cs,v.oneCell'=true) (l:List RSeg) (ao:zzA) (c:Nat) (w:World) (h:SlAt w 6 R ao l) (hl:l.length*48<=140737488355328):
  Calls Tryz.prog 49 #[.slice ao l.length c] w fun e w'=>(∃ao' c',e= .returned (.slice ao' l.length c')/\SlS w' (fun _ _=>R) 127 6 w.heap.size w'.heap.size ao' l)/\Below w.heap.size w w':=by
 obtain⟨i0,hi,hz0,hz1,hz2⟩:=info_parts infoCSeg
 by_cases hnil:l= []
 ·subst hnil
  cases ao with
  |none=>
   refine(AnyE.slices_Clone_nil laySeg 0 c w).mono ?_
   rintro e w' ⟨rfl,rfl⟩
   exact⟨⟨none,0,rfl,.inl rfl⟩,Below.refl _ _⟩
  |some a=>
   refine(clone_zero laySeg i0 _ 6 48 hi hz0 hz1 hz2 rfl (by decide) Tryz.sizeOf127 a c w).mono ?_
   rintro e w' ⟨v,rfl,ho,-,hb⟩
   obtain⟨ao',c',rfl,hs⟩:=sls_owned (R:=R) (l:=[]) ho (fun j hj=>absurd hj (Nat.not_lt_zero _))
   exact⟨⟨ao',c',rfl,hs⟩,hb⟩
 ·obtain⟨b,off,rfl,hb,hr⟩:=h.rows hnil
  obtain⟨vs,e1,e2,e3⟩:=rows_values hr hone
  refine(AnyE.slices_Clone laySeg i0 _ 6 48 hi hz0 hz1 hz2 rfl (by decide) Tryz.sizeOf127 b off l.length c vs w e1 (by unfold maxLen;omega) (by omega) (fun j u hj=>?_) e3).mono ?_
  ·have hj2:j<l.length*6:=by have:=(List.getElem?_eq_some_iff.1 hj).1;omega
   rw [e2 j hj2,hj]
  ·rintro e w' ⟨v,rfl,ho,-,hbw⟩
   have hrow: ∀j (h:j<l.length),∃cs:List Value,cs.length=6/\(∀i,i<6->vs[j*6+i]?=cs[i]?)/\R cs l[j]:=fun j hj=>by
    obtain⟨cs,k1,k2,k3⟩:=hr j hj
    exact⟨cs,k1,fun i hi=>by rw [<-k2 i hi,<-e2 (j*6+i) (by omega),Nat.add_assoc],k3⟩
   obtain⟨ao',c',rfl,hs⟩:=sls_owned ho hrow
   exact⟨⟨ao',c',rfl,hs⟩,hbw⟩
def setL (g:Nat):List Value->Nat->World->World
 |[],_,w=>w
 |v::l,o,w=>setL g l (o+1) (w.setCell ⟨g,o,none⟩ v)
theorem setL_low {B g:Nat} {w0:World} (hB:B<=g): ∀(l:List Value) (o:Nat) (w:World),Below B w0 w->Below B w0 (setL g l o w)
 |[],_,_,h=>h
 |v::l,o,w,h=>setL_low hB l (o+1) _ (h.setCell (p:=⟨g,o,none⟩) hB v)
theorem setL_other {g q:Nat} (hq:q≠g): ∀(l:List Value) (o:Nat) (w:World),(setL g l o w).heap[q]?=w.heap[q]?
 |[],_,_=>rfl
 |v::l,o,w=>(setL_other hq l (o+1) _).trans (heap_setCell_other _ _ _ _ hq)
theorem setL_size {g:Nat}: ∀(l:List Value) (o:Nat) (w:World),(setL g l o w).heap.size=w.heap.size
 |[],_,_=>rfl
 |v::l,o,w=>(setL_size l (o+1) _).trans (by simp)
theorem setL_row {g:Nat} {T:TypeId}: ∀(l:List Value) (o:Nat) (w:World) (arr:Array Value),w.heap[g]?=some (.cells arr T (0,0))->o+l.length<=arr.size ->
  ∃arr',(setL g l o w).heap[g]?=some (.cells arr' T (0,0))/\ ∀j,arr'[j]?=if o<=j/\j<o+l.length then l[j-o]? else arr[j]?
 |[],o,w,arr,h,_=>⟨arr,h,fun j=>by rw [if_neg (by simp<;>omega)]⟩
 |v::l,o,w,arr,h,hs=>by
  simp only [List.length_cons]at hs ⊢
  have h1:(w.setCell ⟨g,o,none⟩ v).heap[g]?=some (.cells (arr.setIfInBounds o v) T (0,0)):=heap_setCell_same _ _ o _ _ _ h
  obtain⟨arr',e1,e2⟩:=setL_row l (o+1) _ _ h1 (by simp;omega)
  refine⟨arr',e1,fun j=>?_⟩
  rw [e2 j]
  by_cases c:o+1<=j/\j<o+1+l.length
  ·rw [if_pos c,if_pos (by omega),show j-o=(j-(o+1))+1 by omega,List.getElem?_cons_succ]
  ·rw [if_neg c]
   by_cases d:j=o
   ·subst d
    rw [if_pos (by omega),Nat.sub_self,Array.getElem?_setIfInBounds_self_of_lt (by omega)]
    rfl
   ·rw [if_neg (by omega),Array.getElem?_setIfInBounds_ne (fun e=>d e.symm)]
def dgt (m:Nat):UInt8:=UInt8.ofNat (48+m%10)
def digF:Nat->Nat->List UInt8
 |0,_=>[]
 |f+1,m=>if m<10 then [dgt m]else digF f (m/10)++ [dgt m]
def dig (m:Nat):List UInt8:=digF (m+1) m
theorem digF_eq: ∀(f g m:Nat),m<f->m<g->digF f m=digF g m
 |0,_,_,h,_=>absurd h (Nat.not_lt_zero _)
 |_,0,_,_,h=>absurd h (Nat.not_lt_zero _)
 |f+1,g+1,m,h1,h2=>by
  unfold digF
  by_cases h:m<10
  ·rw [if_pos h,if_pos h]
  ·rw [if_neg h,if_neg h,digF_eq f g (m/10) (by omega) (by omega)]
theorem dig_small {m:Nat} (h:m<10):dig m= [dgt m]:=by unfold dig digF;rw [if_pos h]
theorem dig_big {m:Nat} (h: ¬m<10):dig m=dig (m/10)++ [dgt m]:=by
 unfold dig
 rw [show digF (m+1) m=digF m (m/10)++ [dgt m]by rw [digF,if_neg h],digF_eq m (m/10+1) (m/10) (by omega) (by omega)]
theorem dig_len: ∀(k m:Nat),m<10^(k+1)->(dig m).length<=k+1
 |0,m,h=>by rw [dig_small (by omega)];simp
 |k+1,m,h=>by
  by_cases hs:m<10
  ·rw [dig_small hs];simp
  ·have:=dig_len k (m/10) (by rw [Nat.pow_succ]at h;omega)
   rw [dig_big hs];simp;omega
theorem dig_len20 {m:Nat} (h:m<=18446744073709551616):(dig m).length<=20:=dig_len 19 m (by omega)
def txt (n:Int):List UInt8:=if n<0 then 45::dig n.natAbs else dig n.natAbs
def byteCells (cs:List UInt8):Array Value:=(cs.map fun b=>Value.int .u8 (b.toNat:Int)).toArray
theorem byteCells_get {cs:List UInt8} {j:Nat} (h:j<cs.length):(byteCells cs)[j]?=some (.int .u8 (cs[j].toNat:Int)):=by
 simp [byteCells,h]
theorem byteCells_set (cs:List UInt8) (j:Nat) (d:UInt8):(byteCells cs).setIfInBounds j (.int .u8 (d.toNat:Int))=byteCells (cs.set j d):=by
 simp [byteCells,List.map_set]
theorem dgt_toNat (m:Nat):((dgt m).toNat:Int)=48+(m:Int)%10:=by
 unfold dgt
 have h:(UInt8.ofNat (48+m%10)).toNat=(48+m%10)%256:=UInt8.toNat_ofNat'
 rw [h];omega
theorem drop_set (cs:List UInt8) (k:Nat) (d:UInt8) (h:k<cs.length):(cs.set k d).drop k=d::cs.drop (k+1):=by
 rw [List.drop_eq_getElem_cons (by simpa using h),List.drop_set_of_lt (by omega)]
 simp
theorem pow10 (j:Nat):(10:Nat)^(j+1)=10^j*10:=Nat.pow_succ ..
theorem size_any (a:Int) (w:World) (ha:I64 a):
  Calls Tryz.prog 108 #[.int .i64 a] w fun e w'=>e= .returned (.int .u64 a.natAbs)/\w=w':=by
 obtain⟨a1,a2⟩:=ha
 go_enter Tryz.func108,Tryz.ntmps108
 go_wp2
 ·go_ret
  exact⟨ret1 (by
    have:a<0:=by assumption
    rw [IntKind.wrap_u64,IntKind.wrap_u64];omega),rfl⟩
 ·go_ret
  exact⟨ret1 (by
    have:0<=a:=by assumption
    omega),rfl⟩
theorem slice20 (B:Nat) (l:Int) (k:Nat) (hl:l=k) (hk:k<20) (w:World):
  (Instr.sliceAt 215 (.pointer (some ⟨B,0,none⟩)) (some (.int .i64 l)) none none).run Tryz.prog w= .ok (.slice (some ⟨B,k,none⟩) (20-k) (20-k)) w:=by
 subst hl
 have e:Tryz.prog.arrayLen 215=20:=by kernel_rfl
 have ee:Tryz.prog.elem 215=5:=by kernel_rfl
 rw [run_sliceAt_array_l w 215 ⟨B,0,none⟩ (by rw [e,ee];exact Tryz.underlying215) .i64 k (by omega) (by rw [e];omega),e,ee]
 simp [go_sem,slicedAt,Addr.add]
 rw [if_neg (by omega)]
 split<;>simp_all
theorem conv20 (B k L:Nat) (hL:L=20-k) (l cs:List UInt8) (w:World) (hh:w.heap[B]?=some (.cells (byteCells cs) 215 (0,0))) (hl:cs.length=20) (e:l=cs.drop k):
  (convert 205 9 (.slice (some ⟨B,k,none⟩) L L)).run Tryz.prog w= .ok (.string ⟨l.toArray⟩) w:=by
 subst e hL
 have:=run_convert_bytes_back (P:=Tryz.prog) w 205 9 5 ⟨B,k,none⟩ (20-k) (cs.drop k) Tryz.underlying205 Tryz.underlying5 Tryz.underlying9 (fun j hj=>by
  have hp:(⟨B,k,none⟩:Addr).add j=⟨B,k+j,none⟩:=by unfold Addr.add;split<;>simp_all
  rw [hp,cell_of_row _ _ _ _ _ _ hh,byteCells_get (by simp at hj;omega)]
  simp)
 rw [List.length_drop,hl]at this
 exact this
theorem text_any (n:Int) (w:World) (hn:I64 n):
  Calls Tryz.prog 69 #[.int .i64 n] w fun e w'=>e= .returned (.string ⟨(txt n).toArray⟩)/\Below w.heap.size w w':=by
 go_enter Tryz.func69,Tryz.ntmps69
 go_wp2_with (go_at_call 108;refine(size_any _ _ hn).mono ?_;rintro e w1 ⟨rfl,rfl⟩)
 go_loopw [4,5] (fun v l wr=> ∃(k m:Nat) (cs:List UInt8),v= .int .i64 k/\l= .int .u64 m/\2<=k/\k<=20/\m<10^(k-1)/\m<=9223372036854775808/\cs.length=20/\wr.heap[w.heap.size]?=some (.cells (byteCells cs) 215 (0,0))/\Below w.heap.size w wr/\Hid (dig n.natAbs=dig m++cs.drop k)) (fun v _ _=>(intOf v).toNat)
 case atStart=>exact⟨20,n.natAbs,List.replicate 20 0,rfl,rfl,by omega,by omega,by have:=hn.1;have:=hn.2;omega,by have:=hn.1;have:=hn.2;omega,rfl,heap_alloc_new _ _,zzE _ _,by simp [Hid]⟩
 case round=>
  obtain⟨k,m,cs,rfl,rfl,hk1,hk2,hm,hm2,hl,hh,hB,HD⟩:=hrel
  obtain⟨j,rfl⟩: ∃j,k=j+2:=⟨k-2,by omega⟩
  rename World=>wr
  have HM:=Lib.hid hm;clear hm
  have HL:=Lib.hid hl;clear hl
  have hcell:wr.cell? ⟨w.heap.size,j+1,none⟩=some (.int .u8 (cs[j+1]'(by rw [HL.out];omega)).toNat):=by rw [cell_of_row _ _ _ _ _ _ hh];exact byteCells_get _
  have hcell0:wr.cell? ⟨w.heap.size,j,none⟩=some (.int .u8 (cs[j]'(by rw [HL.out];omega)).toNat):=by rw [cell_of_row _ _ _ _ _ _ hh];exact byteCells_get _
  have hfz0:wr.frozen? ⟨w.heap.size,j,none⟩=false:=frozen_of_row _ _ _ _ _ hh
  have hfz:wr.frozen? ⟨w.heap.size,j+1,none⟩=false:=frozen_of_row _ _ _ _ _ hh
  have hh1:(wr.setCell ⟨w.heap.size,j+1,none⟩ (.int .u8 (48+(m:Int)%10))).heap[w.heap.size]?=some (.cells (byteCells (cs.set (j+1) (dgt m))) 215 (0,0)):=by
   rw [heap_setCell_same _ _ _ _ _ _ hh,<-dgt_toNat,byteCells_set]
  have hd1:(cs.set (j+1) (dgt m)).drop (j+1)=dgt m::cs.drop (j+2):=drop_set _ _ _ (by rw [HL.out];omega)
  have hl1:(cs.set (j+1) (dgt m)).length=20:=by rw [List.length_set];exact HL.out
  have hB1:Below w.heap.size w (wr.setCell ⟨w.heap.size,j+1,none⟩ (.int .u8 (48+(m:Int)%10))):=hB.setCell (Nat.le_refl _) _
  refine zzK4 hh hh1 hd1 hl1 fun HH HH1 HD1 HL1=>?_;clear hh hh1 hd1 hl1
  by_cases small:m<10
  ·have hdm:=dig_small small
   have HDM:=Lib.hid hdm;clear hdm
   have HT:Hid (dig n.natAbs=dgt m::cs.drop (j+2)):=by have:=HD.out;rw [HDM.out]at this;exact this
   by_cases neg:n<0
   ·have hh2:((wr.setCell ⟨w.heap.size,j+1,none⟩ (.int .u8 (48+(m:Int)%10))).setCell ⟨w.heap.size,j,none⟩ (.int .u8 45)).heap[w.heap.size]?=some (.cells (byteCells ((cs.set (j+1) (dgt m)).set j 45)) 215 (0,0)):=by
     exact(heap_setCell_same _ _ _ _ _ _ HH1.out).trans (congrArg (fun x=>some (Obj.cells x 215 (0,0))) (byteCells_set _ j 45))
    have hcv:=conv20 w.heap.size j (20-j) rfl (txt n) _ _ hh2 (by rw [List.length_set];exact HL1.out) (by rw [drop_set _ _ _ (by rw [HL1.out];omega),HD1.out,txt,if_pos neg,HT.out])
    have hsl:=slice20 w.heap.size ((j:Int)+2-1-1) j (by omega) (by omega)
    clear hh2
    go_wp2
    go_ret
    exact⟨rfl,hB1.setCell (Nat.le_refl _) _⟩
   ·have hcv:=conv20 w.heap.size (j+1) (19-j) (by omega) (txt n) _ _ HH1.out HL1.out (by rw [HD1.out,txt,if_neg neg,HT.out])
    have hsl:=slice20 w.heap.size ((j:Int)+2-1) (j+1) (by omega) (by omega)
    go_wp2
    go_ret
    exact⟨rfl,hB1⟩
  ·have hdm:=dig_big small
   have HDM:=Lib.hid hdm;clear hdm
   go_wp2
   go_roundw
   case rel=>
    have hj:1<=j:=by
     rcases Nat.eq_zero_or_pos j with h|h
     ·have:=HM.out;subst h;omega
     ·exact h
    refine⟨j+1,m/10,cs.set (j+1) (dgt m),by go_num,by go_num,by omega,by omega,?_,by omega,HL1.out,HH1.out,hB1,?_⟩
    ·have:=HM.out
     obtain⟨i,rfl⟩: ∃i,j=i+1:=⟨j-1,by omega⟩
     rw [show i+1+2-1=i+1+1 by omega,pow10]at this
     rw [show i+1+1-1=i+1 by omega]
     omega
    ·exact Lib.hid (by rw [HD.out,HDM.out,HD1.out,List.append_assoc];rfl)
   case measure=>simp [intOf];omega
open Go.RowKit Go.Maps Go.WideMaps
theorem strLaw:Keyed Tryz.prog 9:=string_keyed Tryz.underlying9
theorem zeroInt (w:World):(zeroValue 3).run Tryz.prog w= .ok (.int .i64 0) w:=by kernel_rfl
def tabPut (t:List UInt8->Int) (k:List UInt8) (c:Int):List UInt8->Int:=fun x=>if x=k then c else t x
def tabAll (c:Int) (ws:List (List UInt8)) (t:List UInt8->Int):List UInt8->Int:=ws.foldl (fun t k=>tabPut t k c) t
def MapIs (w:World) (M n:Nat) (t:List UInt8->Int):Prop:= ∃D:DataW Unit,w.ownsMap Tryz.prog 9 (plainElem Tryz.prog 3) M n D/\ ∀k:List UInt8,D.atKey (.string k) (.lit (.int .i64 0))= .lit (.int .i64 (t k))
theorem isKey_str (k:List UInt8):WideAt.IsKeyLit (.string k):=by unfold WideAt.IsKeyLit;simp
theorem mapIs_put {D:DataW Unit} {t:List UInt8->Int} (hD:IsMap D) (h: ∀k:List UInt8,D.atKey (.string k) (.lit (.int .i64 0))= .lit (.int .i64 (t k))) (x:List UInt8) (c:Int):
  ∀k:List UInt8,(D.put (.string x) (.lit (.int .i64 c))).atKey (.string k) (.lit (.int .i64 0))= .lit (.int .i64 (tabPut t x c k)):=by
 intro k
 unfold tabPut
 by_cases e:k=x
 ·rw [if_pos e,e,atKey_put_same hD (isKey_str x)]
 ·rw [if_neg e,atKey_put_other (by intro h2;injection h2 with h2;exact e h2)];exact h k
theorem tabAll_step (c:Int) (ws:List (List UInt8)) (t:List UInt8->Int) {k:Nat} (h:k<ws.length):tabAll c (ws.take (k+1)) t=tabPut (tabAll c (ws.take k) t) ws[k] c:=by
 unfold tabAll
 rw [List.take_add_one,List.getElem?_eq_getElem h,List.foldl_append];rfl
theorem add_any (c:Int) (s:ByteArray) (ws:List (List UInt8)) (B C M n:Nat) (t:List UInt8->Int) (w:World) (hws:Lib.fields s.data.toList=ws) (hc0:0<=c) (hc1:c<=10) (hs:s.size<4294967281) (hwl: ∀x∈ws,x.length<=1000) (hwn:ws.length<=1000) (hn:n<=1000000)
  (hascii: ∀(j:Nat) b,s.data.toList[j]?=some b->b.toNat<128) (htab:Lib.TabIs Tryz.prog w "strings.asciiSpace" .u8 Lib.asciiSpaceTab)
  (hB:B<=w.heap.size) (hBC:B<=C) (hBM:B<=M) (hCM:C≠M) (hC:w.heap[C]?=some (.cells #[.map (some M)] 262 (0,0))) (hM:MapIs w M n t):
  Calls Tryz.prog 194 #[.int .i64 c,.string s,.pointer (some ⟨C,0,none⟩)] w fun e w'=>e= .returned (.tuple #[])/\MapIs w' M (n+ws.length) (tabAll c ws t)/\w'.heap[C]?=some (.cells #[.map (some M)] 262 (0,0))/\Below B w w':=by
 have HF:=fun w' h=>Tryz.strings_Fields s w' hs hascii h
 rw [hws]at HF
 have HTab:=Lib.hid htab
 clear htab hws
 have hMl:M<w.heap.size:=by obtain⟨D,h,_⟩:=hM;exact h.lt
 have hCl:=lt_of_row hC
 go_enter Tryz.func194,Tryz.ntmps194
 go_wp2_with (go_at_call 195;refine(HF _ HTab.out).mono ?_;rintro e w1 ⟨rfl,rfl⟩)
 have hWd:=heap_alloc_new w (.cells (ws.map fun l=>Value.string ⟨l.toArray⟩).toArray 9)
 have hC1:=(Below.heap_alloc w (.cells (ws.map fun l=>Value.string ⟨l.toArray⟩).toArray 9) C hCl).trans hC
 have hB1:Below B w (w.alloc (.cells (ws.map fun l=>Value.string ⟨l.toArray⟩).toArray 9)):=(Below.refl _ _).alloc hB _
 have hM1:MapIs (w.alloc (.cells (ws.map fun l=>Value.string ⟨l.toArray⟩).toArray 9)) M n t:=by
  obtain⟨D,h,h2⟩:=hM;exact⟨D,h.alloc _,h2⟩
 generalize hW:w.alloc (.cells (ws.map fun l=>Value.string ⟨l.toArray⟩).toArray 9)=W at *
 generalize hb:w.heap.size=b at *
 go_loopw [10] (fun i wr=> ∃k:Nat,k<=ws.length/\i= .int .i64 k/\MapIs wr M (n+k) (tabAll c (ws.take k) t)/\wr.heap[C]?=some (.cells #[.map (some M)] 262 (0,0))/\wr.heap[b]?=some (.cells (ws.map fun l=>Value.string ⟨l.toArray⟩).toArray 9 (0,0))/\Below B w wr) (fun i _=>ws.length-(intOf i).toNat)
 case atStart=>exact⟨0,Nat.zero_le _,rfl,hM1,hC1,hWd,hB1⟩
 case round=>
  obtain⟨k,hk,rfl,⟨D,hown,hD⟩,hCr,hbr,hBr⟩:=hrel
  rename World=>wr
  by_cases hlt:k<ws.length
  ·have hcw:wr.cell? ⟨b,k,none⟩=some (.string ⟨ws[k].toArray⟩):=by rw [cell_of_row _ _ _ _ _ _ hbr];simp [hlt]
   have hcC:wr.cell? ⟨C,0,none⟩=some (.map (some M)):=by rw [cell_of_row _ _ _ _ _ _ hCr];rfl
   have hkey:keyOf Tryz.prog 9 (.string ⟨ws[k].toArray⟩)=some (.string ws[k]):=by
    have:=hwl _ (List.getElem_mem hlt)
    exact keyOf_string_mk Tryz.underlying9 (by unfold maxLen;simp [ByteArray.size];omega)
   have hDM:=hown.isMap
   have HP:=Lib.hid (mapIs_put hDM hD ws[k] c)
   have HS:=Lib.hid (tabAll_step c ws t hlt)
   have hkl:=hwl _ (List.getElem_mem hlt)
   generalize ws[k]=x at *
   go_wp2_with (first
    |(at_mapUpdate;refine wpList_mapUpdate_own _ rfl _ _ _ 262 rfl 9 3 strLaw Tryz.underlying262 _ M (n+k) _ rfl hown (by unfold maxLen;omega) _ _ _ rfl rfl hkey _ [] (plainElem_int Tryz.underlying3 (WalkArith.wf_i64 (by omega))) ?_)
    |fail)
   intro w1 hown1 hgrow1
   have hM2:MapIs w1 M (n+(k+1)) (tabAll c (ws.take (k+1)) t):=⟨_,hown1,by rw [HS.out];exact HP.out⟩
   have hC2:w1.heap[C]?=some (.cells #[.map (some M)] 262 (0,0)):=(hgrow1.block C (lt_of_row hCr) (fun e=>hCM (Option.some.inj e))).trans hCr
   have hb2:w1.heap[b]?=some (.cells (ws.map fun l=>Value.string ⟨l.toArray⟩).toArray 9 (0,0)):=(hgrow1.block b (lt_of_row hbr) (fun e=>by have:=Option.some.inj e;omega)).trans hbr
   have hB2:Below B w w1:=hBr.grown hgrow1 (by have:=hBr.size;omega) (fun j hj=>by cases hj;exact hBM)
   clear hown1 hgrow1 hown hcw hcC
   go_wp2_with fail
   go_roundw
   case rel=>exact⟨k+1,by omega,by go_num,hM2,hC2,hb2,hB2⟩
   case measure=>simp [intOf];omega
  ·obtain rfl:k=ws.length:=by omega
   have hMF:MapIs wr M (n+ws.length) (tabAll c ws t):=⟨D,hown,by rw [List.take_length]at hD;exact hD⟩
   clear hown
   go_wp2_with fail
   (try simp only [Exit.inBlock,Exit.then])
   go_end0
   exact⟨rfl,hMF,hCr,hBr⟩
theorem puts_map {t:VSt} (ht:trimT t.x=t.x): ∀(l:List Nat) (M:Nat->Option VM) (j:Nat),(l.map (fun k=>(k,t))).foldl putM M j=if j∈l then addV (M j) t else M j
 |[],M,j=>rfl
 |k::l,M,j=>by
  rw [List.map_cons,List.foldl_cons,puts_map ht l]
  unfold putM
  by_cases e:j=k
  ·subst e
   rw [if_pos (List.mem_cons_self ..)]
   simp only [if_true]
   by_cases h:j∈l
   ·rw [if_pos h];exact add_twice _ _ ht
   ·rw [if_neg h]
  ·simp only [e,if_false]
   by_cases h:j∈l
   ·rw [if_pos h,if_pos (List.mem_cons_of_mem _ h)]
   ·rw [if_neg h,if_neg (fun h'=>(List.mem_cons.1 h').elim e h)]
theorem puts_ext {t:VSt} (ht:trimT t.x=t.x) {l m:List Nat} (h: ∀j,j∈l↔j∈m) (M:Nat->Option VM):(l.map (fun k=>(k,t))).foldl putM M=(m.map (fun k=>(k,t))).foldl putM M:=by
 funext j
 rw [puts_map ht,puts_map ht]
 by_cases c:j∈l
 ·rw [if_pos c,if_pos ((h j).1 c)]
 ·rw [if_neg c,if_neg (fun x=>c ((h j).2 x))]
structure JumpOk (n i:Nat) (x:RIns):Prop where
 case: ∀c∈x.cases,(i:Int)<c.to/\c.to<n
 sel:x.cases≠ []->x.op=12
 «to»:toB x.op=true->0<=x.to/\x.to<n
 fwd:toB x.op=true->x.op≠39->x.op≠40->(i:Int)<x.to
 non:toB x.op=false->x.op≠28->x.to=0
def tosV (i:Nat) (x:RIns):List Nat:=(if toB x.op=true/\(i:Int)<x.to then [x.to.toNat]else [])++x.cases.map (fun c=>c.to.toNat)
theorem adds_tos (u:RUnit) (i:Nat) (s:VSt) (x:RIns):addsV u i s x=(tosV i x).map (fun k=>(k,toV s x))++((if raises x.op=true/\s.tries≠ []then [((lastT s.tries).toNat,handV s)]else [])++(if followsV x.op=true then [(i+1,nextV u i s x)]else [])):=by
 unfold addsV tosV
 rw [List.map_append,List.append_assoc,List.map_map]
 congr 1
 split<;>rfl
def goB (i:Nat) (x:RIns) (k:Int):Bool:=decide ((i:Int)+1<k)||(decide (k=(i:Int)+1)&&((decide (x.to=k)&& !decide (x.op=28))||x.cases.any (fun c=>decide (c.to=k))))
def passL (i:Nat) (s t:VSt) (x:RIns):List Int->(Nat->Option VM)->Int × (Nat->Option VM)
 |[],M=>(0,M)
 |k::l,M=>if goB i x k=true then passL i s t x l (putM M (k.toNat,t))else if k<=i/\backB (stM M k.toNat) s=true then(184,M)else passL i s t x l M
def SuccOk (n i:Nat) (x:RIns) (ks:List Int):Prop:= ∀k,k∈ks↔k∈targetsV i x/\0<=k/\k<n
theorem goB_gt {i:Nat} {x:RIns} {k:Int} (h:goB i x k=true):(i:Int)<k:=by
 unfold goB at h
 simp at h
 omega
theorem go_mem {n i:Nat} {x:RIns} {ks:List Int} (hk:SuccOk n i x ks) (hj:JumpOk n i x) (j:Nat):j∈(ks.filter (goB i x)).map Int.toNat↔j∈tosV i x:=by
 constructor
 ·intro h
  obtain⟨k,hk1,rfl⟩:=List.mem_map.1 h
  obtain⟨h1,h2⟩:=List.mem_filter.1 hk1
  obtain⟨h3,h4,h5⟩:=(hk k).1 h1
  have hgt:=goB_gt h2
  unfold tosV
  unfold targetsV at h3
  rcases List.mem_append.1 h3 with h3|h3
  ·have hf:k=(i:Int)+1:=by
    by_cases c:followsV x.op=true
    ·rw [if_pos c]at h3;simpa using h3
    ·rw [if_neg c]at h3;simp at h3
   unfold goB at h2
   rw [Bool.or_eq_true,Bool.and_eq_true,Bool.or_eq_true,Bool.and_eq_true]at h2
   rcases h2 with h2|⟨-,⟨h2,h6⟩|h2⟩
   ·have:=of_decide_eq_true h2;omega
   ·have e1:=of_decide_eq_true h2
    have e2:x.op≠28:=by simpa using h6
    by_cases c:toB x.op=true
    ·refine List.mem_append_left _ ?_
     rw [if_pos ⟨c,by omega⟩,e1];exact List.mem_singleton.2 rfl
    ·have:=hj.non (by simpa using c) e2;omega
   ·obtain⟨c,hc1,hc2⟩:=List.any_eq_true.1 h2
    refine List.mem_append_right _ (List.mem_map.2 ⟨c,hc1,?_⟩)
    rw [of_decide_eq_true hc2]
  ·rcases List.mem_append.1 h3 with h3|h3
   ·by_cases c:toB x.op=true
    ·rw [if_pos c]at h3
     have e:=List.mem_singleton.1 h3
     refine List.mem_append_left _ ?_
     rw [if_pos ⟨c,by omega⟩,e];exact List.mem_singleton.2 rfl
    ·rw [if_neg c]at h3;simp at h3
   ·by_cases c:x.op=12
    ·rw [if_pos c]at h3
     obtain⟨c,hc1,hc2⟩:=List.mem_map.1 h3
     exact List.mem_append_right _ (List.mem_map.2 ⟨c,hc1,by rw [hc2]⟩)
    ·rw [if_neg c]at h3;simp at h3
 ·intro h
  unfold tosV at h
  rcases List.mem_append.1 h with h|h
  ·by_cases c:toB x.op=true/\(i:Int)<x.to
   ·rw [if_pos c]at h
    have e:=List.mem_singleton.1 h
    have h1:=hj.to c.1
    refine List.mem_map.2 ⟨x.to,List.mem_filter.2 ⟨(hk _).2 ⟨?_,h1.1,h1.2⟩,?_⟩,e.symm⟩
    ·unfold targetsV
     refine List.mem_append_right _ (List.mem_append_left _ ?_)
     rw [if_pos c.1];exact List.mem_singleton.2 rfl
    ·have h28:x.op≠28:=fun e=>by rw [e]at c;exact absurd c.1 (by decide)
     unfold goB
     by_cases d:(i:Int)+1<x.to
     ·rw [decide_eq_true d];rfl
     ·rw [decide_eq_false d,decide_eq_true (show x.to=(i:Int)+1 by omega),decide_eq_false h28];simp
   ·rw [if_neg c]at h;simp at h
  ·obtain⟨c,hc1,rfl⟩:=List.mem_map.1 h
   have h1:=hj.case c hc1
   have h2:=hj.sel (fun e=>by rw [e]at hc1;cases hc1)
   refine List.mem_map.2 ⟨c.to,List.mem_filter.2 ⟨(hk _).2 ⟨?_,by omega,h1.2⟩,?_⟩,rfl⟩
   ·unfold targetsV
    refine List.mem_append_right _ (List.mem_append_right _ ?_)
    rw [if_pos h2];exact List.mem_map.2 ⟨c,hc1,rfl⟩
   ·unfold goB
    by_cases d:(i:Int)+1<c.to
    ·rw [decide_eq_true d];rfl
    ·have e:x.cases.any (fun c'=>decide (c'.to=c.to))=true:=List.any_eq_true.2 ⟨c,hc1,decide_eq_true rfl⟩
     rw [decide_eq_false d,decide_eq_true (show c.to=(i:Int)+1 by omega),e];simp
theorem back_is {n i:Nat} {x:RIns} {k:Int} (hj:JumpOk n i x) (h:k∈targetsV i x) (hi:k<=i):toB x.op=true/\k=x.to:=by
 unfold targetsV at h
 rcases List.mem_append.1 h with h|h
 ·by_cases c:followsV x.op=true
  ·rw [if_pos c]at h;have:=List.mem_singleton.1 h;omega
  ·rw [if_neg c]at h;simp at h
 ·rcases List.mem_append.1 h with h|h
  ·by_cases c:toB x.op=true
   ·rw [if_pos c]at h;exact⟨c,List.mem_singleton.1 h⟩
   ·rw [if_neg c]at h;simp at h
  ·by_cases c:x.op=12
   ·rw [if_pos c]at h
    obtain⟨c,hc1,hc2⟩:=List.mem_map.1 h
    have:=hj.case c hc1
    omega
   ·rw [if_neg c]at h;simp at h
theorem pass_loop {n i:Nat} {s t:VSt} {x:RIns} (hj:JumpOk n i x): ∀(ks:List Int) (M:Nat->Option VM),(∀k∈ks,k∈targetsV i x) ->
  (passL i s t x ks M).1=(if(∃k∈ks,k<=i)/\backB (stM M x.to.toNat) s=true then 184 else 0)/\((passL i s t x ks M).1=0->(passL i s t x ks M).2=(((ks.filter (goB i x)).map Int.toNat).map (fun k=>(k,t))).foldl putM M)
 |[],M,_=>⟨by rw [if_neg (by simp)];rfl,fun _=>rfl⟩
 |k::ks,M,hks=>by
  by_cases g:goB i x k=true
  ·have hgt:=goB_gt g
   obtain⟨h1,h2⟩:=pass_loop hj ks (putM M (k.toNat,t)) (fun k' h=>hks k' (List.mem_cons_of_mem _ h))
   have e:passL i s t x (k::ks) M=passL i s t x ks (putM M (k.toNat,t)):=by rw [passL,if_pos g]
   rw [e]
   refine⟨?_,fun h0=>?_⟩
   ·rw [h1]
    by_cases c: ∃k'∈ks,k'<=(i:Int)
    ·obtain⟨k',hk',hle⟩:=c
     obtain⟨-,e2⟩:=back_is hj (hks k' (List.mem_cons_of_mem _ hk')) hle
     have e3:stM (putM M (k.toNat,t)) x.to.toNat=stM M x.to.toNat:=by
      unfold stM putM
      rw [if_neg (show¬x.to.toNat=k.toNat by omega)]
     rw [e3]
     have c1: ∃k'∈ks,k'<=(i:Int):=⟨k',hk',hle⟩
     have c2: ∃k'∈k::ks,k'<=(i:Int):=⟨k',List.mem_cons_of_mem _ hk',hle⟩
     by_cases d:backB (stM M x.to.toNat) s=true
     ·rw [if_pos ⟨c1,d⟩,if_pos ⟨c2,d⟩]
     ·rw [if_neg (fun h=>d h.2),if_neg (fun h=>d h.2)]
    ·rw [if_neg (fun h=>c h.1),if_neg]
     rintro⟨⟨k',hk',hle⟩,-⟩
     rcases List.mem_cons.1 hk' with rfl|hk'
     ·omega
     ·exact c ⟨k',hk',hle⟩
   ·rw [h2 h0,List.filter_cons_of_pos g];rfl
  ·have g':goB i x k=false:=by simpa using g
   obtain⟨h1,h2⟩:=pass_loop hj ks M (fun k' h=>hks k' (List.mem_cons_of_mem _ h))
   by_cases c:k<=(i:Int)
   ·obtain⟨-,e2⟩:=back_is hj (hks k (List.mem_cons_self ..)) c
    by_cases d:backB (stM M k.toNat) s=true
    ·have e:passL i s t x (k::ks) M=(184,M):=by rw [passL,if_neg g,if_pos ⟨c,d⟩]
     rw [e]
     refine⟨?_,fun h0=>absurd (show(184:Int)=0 from h0) (by decide)⟩
     rw [if_pos ⟨⟨k,List.mem_cons_self ..,c⟩,by rw [<-e2];exact d⟩]
    ·have e:passL i s t x (k::ks) M=passL i s t x ks M:=by rw [passL,if_neg g,if_neg (fun h=>d h.2)]
     rw [e]
     refine⟨?_,fun h0=>?_⟩
     ·rw [h1,if_neg (fun h=>d (by rw [e2];exact h.2)),if_neg (fun h=>d (by rw [e2];exact h.2))]
     ·rw [h2 h0,List.filter_cons_of_neg (by rw [g'];decide)]
   ·have e:passL i s t x (k::ks) M=passL i s t x ks M:=by rw [passL,if_neg g,if_neg (fun h=>c h.1)]
    rw [e]
    refine⟨?_,fun h0=>?_⟩
    ·rw [h1]
     have e1:(∃k'∈k::ks,k'<=(i:Int))↔ ∃k'∈ks,k'<=(i:Int):=⟨fun⟨k',h,hle⟩=>(List.mem_cons.1 h).elim (fun e=>absurd hle (by rw [e];exact c)) fun h=>⟨k',h,hle⟩,fun⟨k',h,hle⟩=>⟨k',List.mem_cons_of_mem _ h,hle⟩⟩
     simp only [e1]
    ·rw [h2 h0,List.filter_cons_of_neg (by rw [g'];decide)]
theorem pass_is {n i:Nat} {s t:VSt} {x:RIns} {ks:List Int} (hk:SuccOk n i x ks) (hj:JumpOk n i x) (ht:trimT t.x=t.x) (hi:i<n) (M:Nat->Option VM):
  (passL i s t x ks M).1=(if toB x.op=true/\x.to<=i/\backB (stM M x.to.toNat) s=true then 184 else 0)/\((passL i s t x ks M).1=0->(passL i s t x ks M).2=((tosV i x).map (fun k=>(k,t))).foldl putM M):=by
 obtain⟨h1,h2⟩:=pass_loop (s:=s) (t:=t) hj ks M (fun k h=>((hk k).1 h).1)
 refine⟨?_,fun h0=>?_⟩
 ·rw [h1]
  have e:(∃k∈ks,k<=(i:Int))↔toB x.op=true/\x.to<=i:=by
   constructor
   ·rintro⟨k,hk1,hle⟩
    obtain⟨a,b⟩:=back_is hj ((hk k).1 hk1).1 hle
    exact⟨a,by omega⟩
   ·rintro⟨a,b⟩
    obtain⟨c,d⟩:=hj.to a
    refine⟨x.to,(hk _).2 ⟨?_,c,d⟩,b⟩
    unfold targetsV
    refine List.mem_append_right _ (List.mem_append_left _ ?_)
    rw [if_pos a];exact List.mem_singleton.2 rfl
  simp only [e,and_assoc]
 ·rw [h2 h0];exact puts_ext ht (go_mem hk hj) M
open Go.RowKit Go.Maps Go.WideMaps
def words1:List (List UInt8):=[[105,115,95,105,110,116,101,103,101,114,47,49],[105,115,95,97,116,111,109,47,49],[105,115,95,98,111,111,108,101,97,110,47,49],[105,115,95,116,117,112,108,101,47,49],[105,115,95,112,105,100,47,49],[105,115,95,114,101,102,47,49],[105,115,95,108,105,115,116,47,49],[105,115,95,98,105,116,115,47,49],[105,115,95,98,121,116,101,115,47,49],[105,115,95,102,117,110,47,49],[105,115,95,102,117,110,47,50],[101,108,101,109,101,110,116,47,50],[115,105,122,101,47,49],[104,100,47,49],[116,108,47,49],[108,101,110,103,116,104,47,49],[98,105,116,95,115,105,122,101,47,49],[98,121,116,101,95,115,105,122,101,47,49],[97,98,115,47,49],[109,105,110,47,50],[109,97,120,47,50],[115,101,108,102,47,48],[110,111,100,101,47,48],[110,111,100,101,47,49]]
def wordsS1:List UInt8:=[105,115,95,105,110,116,101,103,101,114,47,49,32,105,115,95,97,116,111,109,47,49,32,105,115,95,98,111,111,108,101,97,110,47,49,32,105,115,95,116,117,112,108,101,47,49,32,105,115,95,112,105,100,47,49,32,105,115,95,114,101,102,47,49,32,105,115,95,108,105,115,116,47,49,32,105,115,95,98,105,116,115,47,49,32,105,115,95,98,121,116,101,115,47,49,32,105,115,95,102,117,110,47,49,32,105,115,95,102,117,110,47,50,32,101,108,101,109,101,110,116,47,50,32,115,105,122,101,47,49,32,104,100,47,49,32,116,108,47,49,32,108,101,110,103,116,104,47,49,32,98,105,116,95,115,105,122,101,47,49,32,98,121,116,101,95,115,105,122,101,47,49,32,97,98,115,47,49,32,109,105,110,47,50,32,109,97,120,47,50,32,115,101,108,102,47,48,32,110,111,100,101,47,48,32,110,111,100,101,47,49]
def words2:List (List UInt8):=[[115,101,116,101,108,101,109,101,110,116,47,51],[116,111,95,108,105,115,116,47,49],[116,111,95,116,117,112,108,101,47,49],[116,111,95,98,121,116,101,115,47,49],[102,114,111,109,95,98,121,116,101,115,47,49],[114,101,118,101,114,115,101,47,49],[109,101,109,98,101,114,47,50],[115,111,114,116,47,49],[112,97,99,107,47,49],[117,110,112,97,99,107,47,49],[101,114,114,111,114,47,49],[101,120,105,116,47,49],[116,104,114,111,119,47,49],[114,97,105,115,101,47,50]]
def wordsS2:List UInt8:=[115,101,116,101,108,101,109,101,110,116,47,51,32,116,111,95,108,105,115,116,47,49,32,116,111,95,116,117,112,108,101,47,49,32,116,111,95,98,121,116,101,115,47,49,32,102,114,111,109,95,98,121,116,101,115,47,49,32,114,101,118,101,114,115,101,47,49,32,109,101,109,98,101,114,47,50,32,115,111,114,116,47,49,32,112,97,99,107,47,49,32,117,110,112,97,99,107,47,49,32,101,114,114,111,114,47,49,32,101,120,105,116,47,49,32,116,104,114,111,119,47,49,32,114,97,105,115,101,47,50]
def words3:List (List UInt8):=[[115,112,97,119,110,47,49],[115,112,97,119,110,47,51],[115,112,97,119,110,95,108,105,110,107,47,49],[115,112,97,119,110,95,108,105,110,107,47,51],[115,112,97,119,110,95,109,111,110,105,116,111,114,47,49],[115,112,97,119,110,95,109,111,110,105,116,111,114,47,51],[114,101,113,117,101,115,116,47,52],[108,105,110,107,47,49],[117,110,108,105,110,107,47,49],[109,111,110,105,116,111,114,47,49],[100,101,109,111,110,105,116,111,114,47,49],[101,120,105,116,47,50],[116,114,97,112,47,49],[112,114,105,111,114,105,116,121,47,49],[114,101,103,105,115,116,101,114,47,50],[117,110,114,101,103,105,115,116,101,114,47,49],[119,104,101,114,101,105,115,47,49],[115,101,110,100,95,97,102,116,101,114,47,51],[99,97,110,99,101,108,47,49],[109,97,107,101,95,114,101,102,47,48],[99,108,111,99,107,47,48],[115,97,121,47,49],[110,111,100,101,115,47,48],[119,97,116,99,104,47,49],[117,110,119,97,116,99,104,47,49],[116,97,98,95,110,101,119,47,49],[116,97,98,95,112,117,116,47,51],[116,97,98,95,103,101,116,47,50],[116,97,98,95,100,101,108,47,50],[116,97,98,95,110,101,120,116,47,50],[116,97,98,95,115,105,122,101,47,49],[116,97,98,95,100,114,111,112,47,49]]
def wordsS3:List UInt8:=[115,112,97,119,110,47,49,32,115,112,97,119,110,47,51,32,115,112,97,119,110,95,108,105,110,107,47,49,32,115,112,97,119,110,95,108,105,110,107,47,51,32,115,112,97,119,110,95,109,111,110,105,116,111,114,47,49,32,115,112,97,119,110,95,109,111,110,105,116,111,114,47,51,32,114,101,113,117,101,115,116,47,52,32,108,105,110,107,47,49,32,117,110,108,105,110,107,47,49,32,109,111,110,105,116,111,114,47,49,32,100,101,109,111,110,105,116,111,114,47,49,32,101,120,105,116,47,50,32,116,114,97,112,47,49,32,112,114,105,111,114,105,116,121,47,49,32,114,101,103,105,115,116,101,114,47,50,32,117,110,114,101,103,105,115,116,101,114,47,49,32,119,104,101,114,101,105,115,47,49,32,115,101,110,100,95,97,102,116,101,114,47,51,32,99,97,110,99,101,108,47,49,32,109,97,107,101,95,114,101,102,47,48,32,99,108,111,99,107,47,48,32,115,97,121,47,49,32,110,111,100,101,115,47,48,32,119,97,116,99,104,47,49,32,117,110,119,97,116,99,104,47,49,32,116,97,98,95,110,101,119,47,49,32,116,97,98,95,112,117,116,47,51,32,116,97,98,95,103,101,116,47,50,32,116,97,98,95,100,101,108,47,50,32,116,97,98,95,110,101,120,116,47,50,32,116,97,98,95,115,105,122,101,47,49,32,116,97,98,95,100,114,111,112,47,49]
def words4:List (List UInt8):=[[97,112,112,108,121,47,50],[97,112,112,108,121,47,51]]
def wordsS4:List UInt8:=[97,112,112,108,121,47,50,32,97,112,112,108,121,47,51]
def classT:List UInt8->Int:=tabAll 4 words4 (tabAll 3 words3 (tabAll 2 words2 (tabAll 1 words1 (fun _=>0))))
theorem ascii_of {l:List UInt8} (h:l.all (fun b=>decide (b.toNat<128))=true): ∀(j:Nat) b,l[j]?=some b->b.toNat<128:=fun j b hb=>by
 have:=List.all_eq_true.1 h b (List.mem_of_getElem? hb)
 simpa using this
theorem lens_of {ws:List (List UInt8)} (h:ws.all (fun x=>decide (x.length<=1000))=true): ∀x∈ws,x.length<=1000:=fun x hx=>by
 have:=List.all_eq_true.1 h x hx
 simpa using this
theorem words1_is:Lib.fields wordsS1=words1:=by kernel_rfl
theorem words2_is:Lib.fields wordsS2=words2:=by kernel_rfl
theorem words3_is:Lib.fields wordsS3=words3:=by kernel_rfl
theorem words4_is:Lib.fields wordsS4=words4:=by kernel_rfl
def SpaceAt (w:World):Prop:=Lib.TabIs Tryz.prog w "strings.asciiSpace" .u8 Lib.asciiSpaceTab
theorem SpaceAt.below {w w':World} (h:SpaceAt w) (hb:Below w.heap.size w w'):SpaceAt w':=Joins.tab_stays (g:=1) (by kernel_rfl) h hb (Nat.le_refl _)
theorem classes_any (w:World) (hsp:SpaceAt w):Calls Tryz.prog 166 #[] w fun e w'=> ∃M,e= .returned (.map (some M))/\MapIs w' M 72 classT/\Below w.heap.size w w':=by
 have hmm:= @run_makeMap Tryz.prog
 have HS:=Lib.hid hsp
 go_enter Tryz.func166,Tryz.ntmps166
 go_wp2_with fail
 have hC0:((w.alloc (.map #[] 0)).alloc (.cells #[.map (some w.heap.size)] 262)).heap[w.heap.size+1]?=some (.cells #[.map (some w.heap.size)] 262 (0,0)):=by
  have h:=heap_alloc_new (w.alloc (.map #[] 0)) (.cells #[.map (some w.heap.size)] 262)
  rwa [show(w.alloc (.map #[] 0)).heap.size=w.heap.size+1 by simp]at h
 have hM0:MapIs ((w.alloc (.map #[] 0)).alloc (.cells #[.map (some w.heap.size)] 262)) w.heap.size 0 (fun _=>0):=⟨_,(World.ownsMap_made _ _ _ _).alloc _,fun k=>rfl⟩
 have hB0:Below w.heap.size w ((w.alloc (.map #[] 0)).alloc (.cells #[.map (some w.heap.size)] 262)):=(zzE _ _).alloc (by simp) _
 have hS0:=Lib.hid (hsp.below hB0)
 have hsz:w.heap.size<=((w.alloc (.map #[] 0)).alloc (.cells #[.map (some w.heap.size)] 262)).heap.size:=hB0.size
 generalize(w.alloc (.map #[] 0)).alloc (.cells #[.map (some w.heap.size)] 262)=w0 at *
 clear hmm
 refine(add_any 1 _ words1 w.heap.size (w.heap.size+1) w.heap.size 0 (fun _=>0) w0 words1_is (by decide) (by decide) (by decide) (lens_of (by kernel_rfl)) (by decide) (by decide) (ascii_of (l:=wordsS1) (by kernel_rfl)) hS0.out hsz (by omega) (Nat.le_refl _) (by omega) hC0 hM0).mono ?_
 rintro e w1 ⟨rfl,hM1,hC1,hB1'⟩
 have hB1:Below w.heap.size w w1:=hB0.trans hB1'
 have hsz1:w.heap.size<=w1.heap.size:=hB1.size
 have hS1:=Lib.hid (hsp.below hB1)
 change MapIs w1 w.heap.size 24 _ at hM1
 generalize ht1:tabAll 1 words1 (fun _=>0)=t1 at hM1
 have HT1:=Lib.hid ht1
 clear ht1 hM0 hC0 hB1' hB0 hsz
 go_wp2_with fail
 refine(add_any 2 _ words2 w.heap.size (w.heap.size+1) w.heap.size 24 t1 w1 words2_is (by decide) (by decide) (by decide) (lens_of (by kernel_rfl)) (by decide) (by decide) (ascii_of (l:=wordsS2) (by kernel_rfl)) hS1.out hsz1 (by omega) (Nat.le_refl _) (by omega) hC1 hM1).mono ?_
 rintro e w2 ⟨rfl,hM2,hC2,hB2'⟩
 have hB2:Below w.heap.size w w2:=hB1.trans hB2'
 have hsz2:w.heap.size<=w2.heap.size:=hB2.size
 have hS2:=Lib.hid (hsp.below hB2)
 change MapIs w2 w.heap.size 38 _ at hM2
 generalize ht2:tabAll 2 words2 t1=t2 at hM2
 have HT2:=Lib.hid ht2
 clear ht2 hM1 hC1 hB2' hB1 hsz1
 go_wp2_with fail
 refine(add_any 3 _ words3 w.heap.size (w.heap.size+1) w.heap.size 38 t2 w2 words3_is (by decide) (by decide) (by decide) (lens_of (by kernel_rfl)) (by decide) (by decide) (ascii_of (l:=wordsS3) (by kernel_rfl)) hS2.out hsz2 (by omega) (Nat.le_refl _) (by omega) hC2 hM2).mono ?_
 rintro e w3 ⟨rfl,hM3,hC3,hB3'⟩
 have hB3:Below w.heap.size w w3:=hB2.trans hB3'
 have hsz3:w.heap.size<=w3.heap.size:=hB3.size
 have hS3:=Lib.hid (hsp.below hB3)
 change MapIs w3 w.heap.size 70 _ at hM3
 generalize ht3:tabAll 3 words3 t2=t3 at hM3
 have HT3:=Lib.hid ht3
 clear ht3 hM2 hC2 hB3' hB2 hsz2
 go_wp2_with fail
 refine(add_any 4 _ words4 w.heap.size (w.heap.size+1) w.heap.size 70 t3 w3 words4_is (by decide) (by decide) (by decide) (lens_of (by kernel_rfl)) (by decide) (by decide) (ascii_of (l:=wordsS4) (by kernel_rfl)) hS3.out hsz3 (by omega) (Nat.le_refl _) (by omega) hC3 hM3).mono ?_
 rintro e w4 ⟨rfl,hM4,hC4,hB4'⟩
 have hB4:Below w.heap.size w w4:=hB3.trans hB4'
 have hsz4:w.heap.size<=w4.heap.size:=hB4.size
 have hS4:=Lib.hid (hsp.below hB4)
 change MapIs w4 w.heap.size 72 _ at hM4
 generalize ht4:tabAll 4 words4 t3=t4 at hM4
 have HT4:=Lib.hid ht4
 clear ht4 hM3 hC3 hB4' hB3 hsz3
 have hc4:w4.cell? ⟨w.heap.size+1,0,none⟩=some (.map (some w.heap.size)):=by rw [cell_of_row _ _ _ _ _ _ hC4];rfl
 go_wp2_with fail
 go_ret
 have e:classT=t4:=by unfold classT;rw [HT1.out,HT2.out,HT3.out,HT4.out]
 exact⟨_,rfl,by rw [e];exact hM4,hB4⟩
def classB (s:ByteArray) (n:Int):Int:=if n<0\/0<=Lib.indexByte s.data.toList 47 then 0 else classT (s.data.toList++ [47]++txt n)
theorem txt_len {n:Int} (h:I64 n):(txt n).length<=21:=by
 unfold I64 at h
 have:=dig_len20 (m:=n.natAbs) (by omega)
 unfold txt;split<;>simp<;>omega
theorem class_any (s:ByteArray) (n:Int) (w:World) (hsp:SpaceAt w) (hs:s.size<=140737488355328) (hn:I64 n):Calls Tryz.prog 120 #[.string s,.int .i64 n] w fun e w'=>e= .returned (.int .i64 (classB s n))/\Below w.heap.size w w':=by
 by_cases hneg:n<0
 ·have E:Hid (classB s n=0):=Lib.hid (by unfold classB;rw [if_pos (.inl hneg)])
  go_enter Tryz.func120,Tryz.ntmps120
  go_wp2_with fail
  go_ret
  exact⟨ret1 E.out.symm,Below.refl _ _⟩
 ·have HC:=Tryz.strings_Contains_one s 47
  by_cases hsl:0<=Lib.indexByte s.data.toList 47
  ·have E:Hid (classB s n=0):=Lib.hid (by unfold classB;rw [if_pos (.inr hsl)])
   rw [decide_eq_true hsl]at HC
   go_enter Tryz.func120,Tryz.ntmps120
   go_wp2_with (go_at_call 165;refine(HC _).mono ?_;rintro e w1 ⟨rfl,rfl⟩)
   go_ret
   exact⟨ret1 E.out.symm,Below.refl _ _⟩
  ·have E:Hid (classB s n=classT (s.data.toList++ [47]++txt n)):=Lib.hid (by unfold classB;rw [if_neg (by omega)])
   rw [decide_eq_false hsl]at HC
   have HL:=Lib.hid (txt_len hn)
   go_enter Tryz.func120,Tryz.ntmps120
   have hsz:s.size+1+(txt n).length<=9223372036854775807:=by have:=HL.out;omega
   have HL2:Hid ((ByteArray.mk (s.data.toList++ [47]++txt n).toArray).size<=maxLen):=Lib.hid (by
    have h1:(ByteArray.mk (s.data.toList++ [47]++txt n).toArray).size=s.size+1+(txt n).length:=by
     show(s.data.toList++ [47]++txt n).toArray.size=_
     rw [List.size_toArray,List.length_append,List.length_append];rfl
    rw [h1];unfold maxLen;omega)
   have hky:keyOf Tryz.prog 9 (.string (s++⟨#[47]⟩++⟨(txt n).toArray⟩))=some (.string (s.data.toList++ [47]++txt n)):=by
    have h:=keyOf_string_mk (P:=Tryz.prog) (k:=9) (s:=⟨(s.data.toList++ [47]++txt n).toArray⟩) Tryz.underlying9 (HL2.out)
    have e:(⟨(s.data.toList++ [47]++txt n).toArray⟩:ByteArray)=s++⟨#[47]⟩++⟨(txt n).toArray⟩:=by
     apply ByteArray.ext;simp
    rwa [e]at h
   have HK:=Lib.hid hky
   clear hky
   go_wp2_with (go_at_call 165;refine(HC _).mono ?_;rintro e w0 ⟨rfl,rfl⟩)
   refine(classes_any _ hsp).mono ?_
   rintro e w1 ⟨M,rfl,⟨D,hown,hD⟩,hB1⟩
   go_wp2_with (go_at_call 69;refine(text_any n _ hn).mono ?_)
   rintro e w2 ⟨rfl,hB2⟩
   have hown2:w2.ownsMap Tryz.prog 9 (plainElem Tryz.prog 3) M _ D:=hown.kept (row:=none) ⟨hB2.os,hB2.tape,hB2.output,hB2.size,fun k hk _=>hB2.block k hk⟩ (by simp)
   have hB12:Below w0.heap.size w0 w2:=below_next hB1 hB2
   have HD:=Lib.hid (hD (s.data.toList++ [47]++txt n))
   clear hown hD HC
   go_wp2_with (at_lookup;refine wpList_lookup_own_int _ rfl _ _ 262 rfl 9 3 .i64 strLaw Tryz.underlying262 Tryz.underlying3 (zeroInt _) M 72 D rfl hown2 _ (.string (s.data.toList++ [47]++txt n)) rfl HK.out ?_)
   intro c hat hwc
   have E2:Hid (c=classB s n):=Lib.hid (by
    rw [E.out];have h1:=HD.out;simp only [List.append_assoc,List.singleton_append]at h1 hat ⊢;have h:=h1.symm.trans hat;injection h with h;injection h with _ h;exact h.symm)
   clear hat hwc
   go_wp2_with fail
   go_ret
   exact⟨ret1 E2.out,hB12⟩
end Go.Proofs.YtponljdhfoipjaaGreatDoor
