import Derived.Test.YtponljdhfoipjaaGreatDoorRows
import Derived.Test.YtponljdhfoipjaaGreatDoorW02
import Derived.Test.YtponljdhfoipjaaGreatDoorW03
import Derived.Test.YtponljdhfoipjaaGreatDoorW04
import Derived.Test.YtponljdhfoipjaaGreatDoorW05
namespace Go.Proofs.YtponljdhfoipjaaGreatDoor
open Go.RowKit
set_option linter.unusedVariables false
set_option linter.unusedSimpArgs false
set_option maxRecDepth 100000
set_option maxHeartbeats 0
def insRow (x:RIns) (so:Option Addr) (sc:Nat) (co:Option Addr) (cc:Nat) (go:Option Addr) (gc:Nat):List Value:=[.int .i64 x.op,.int .i64 x.dst.kind,.int .i64 x.dst.n,.slice so x.src.length sc,.int .i64 x.to,.int .i64 x.n,.int .i64 x.live,.string x.name,.slice co x.cases.length cc,.slice go x.segs.length gc]
def InsB (x:RIns):Prop:=I64 x.op/\I64 x.dst.kind/\I64 x.dst.n/\x.src.length<=maxLen/\I64 x.to/\I64 x.n/\I64 x.live/\x.name.size<=maxLen/\x.cases.length<=maxLen/\x.segs.length<=maxLen
def InsS (w:World) (lo hi:Nat) (cs:List Value) (x:RIns):Prop:=
 (∃so sc co cc go gc,cs=insRow x so sc co cc go gc/\SlS w (fun _ _=>ArgR) 68 2 lo hi so x.src/\SlS w (fun _ _=>CaseR) 124 2 lo hi co x.cases/\SlS w (fun _ _=>SegR) 127 6 lo hi go x.segs)/\InsB x
theorem InsS.kept {w w':World} {lo hi lo' hi':Nat} {cs:List Value} {x:RIns} (h:InsS w lo hi cs x) (hk: ∀b,lo<=b->b<hi->w'.heap[b]?=w.heap[b]?) (h1:lo'<=lo) (h2:hi<=hi'):InsS w' lo' hi' cs x:=by
 obtain⟨⟨so,sc,co,cc,go,gc,e,g1,g2,g3⟩,hb⟩:=h
 exact⟨⟨so,sc,co,cc,go,gc,e,g1.kept hk h1 h2 fun _ _ _ _ _ _ h=>h,g2.kept hk h1 h2 fun _ _ _ _ _ _ h=>h,g3.kept hk h1 h2 fun _ _ _ _ _ _ h=>h⟩,hb⟩
theorem InsS.at {w:World} {lo hi:Nat} {cs:List Value} {x:RIns} (h:InsS w lo hi cs x):InsR w cs x:=by
 obtain⟨⟨so,sc,co,cc,go,gc,e,g1,g2,g3⟩,hb⟩:=h
 exact⟨⟨so,sc,co,cc,go,gc,e,g1.at fun _ _ _ _ h=>h,g2.at fun _ _ _ _ h=>h,g3.at fun _ _ _ _ h=>h⟩,hb⟩
def UNew (w:World) (f lo hi:Nat) (u:RUnit) (lo' fo' go' co':Option Addr):Prop:=
 ∃m1 m2 m3,lo<=m1/\m1<=m2/\m2<=m3/\m3<=hi/\SlS w (SepT w f) 44 9 lo m1 lo' u.lits/\SlS w (fun _ _=>FuncR) 75 4 m1 m2 fo' u.funcs/\SlS w (fun _ _=>FunR) 87 3 m2 m3 go' u.funs/\SlS w (InsS w) 73 10 m3 hi co' u.code
theorem UNew.kept {w w':World} {f lo hi lo' hi':Nat} {u:RUnit} {lo1 fo1 go1 co1:zzA} (h:UNew w f lo hi u lo1 fo1 go1 co1) (hk: ∀b,lo<=b->b<hi->w'.heap[b]?=w.heap[b]?) (h1:lo'<=lo) (h2:hi<=hi'):UNew w' f lo' hi' u lo1 fo1 go1 co1:=by
 obtain⟨m1,m2,m3,b1,b2,b3,b4,g1,g2,g3,g4⟩:=h
 refine⟨m1,m2,m3,by omega,b2,b3,by omega,g1.kept (fun b c1 c2=>hk b c1 (by omega)) h1 (Nat.le_refl _) fun a e cs t ha he hx=>hx.kept (fun b c1 c2=>hk b (by omega) (by omega)) (Nat.le_refl _) (Nat.le_refl _),
  g2.kept (fun b c1 c2=>hk b (by omega) (by omega)) (Nat.le_refl _) (Nat.le_refl _) fun _ _ _ _ _ _ h=>h,g3.kept (fun b c1 c2=>hk b (by omega) (by omega)) (Nat.le_refl _) (Nat.le_refl _) fun _ _ _ _ _ _ h=>h,
  g4.kept (fun b c1 c2=>hk b (by omega) c2) (Nat.le_refl _) h2 fun a e cs t ha he hx=>hx.kept (fun b c1 c2=>hk b (by omega) (by omega)) (Nat.le_refl _) (Nat.le_refl _)⟩
theorem UNew.up {w:World} {f lo hi:Nat} {u:RUnit} {lo1 fo1 go1 co1:zzA} (h:UNew w f lo hi u lo1 fo1 go1 co1) {w0:World} {lo0 fo0 go0 co0:zzA} (h0:UP w0 u lo0 fo0 go0 co0):UP w u lo1 fo1 go1 co1:=by
 obtain⟨m1,m2,m3,b1,b2,b3,b4,g1,g2,g3,g4⟩:=h
 exact⟨g1.at fun _ _ _ _ h=>⟨f,h.at⟩,g2.at fun _ _ _ _ h=>h,g3.at fun _ _ _ _ h=>h,g4.at fun _ _ _ _ h=>h.at,h0.mdlLen,h0.vsn,h0.litsLen,h0.funcsLen,h0.funsLen,h0.codeLen⟩
def LitI (f N:Nat) (w:World) (l:List Tm) (lo1:Option Addr) (k:Nat) (wr:World):Prop:=
 l= []\/ ∃g arr a e,lo1=some ⟨g,0,none⟩/\N+2<=g/\wr.heap[g]?=some (.cells arr 44 (0,0))/\Ivs (N+2) wr.heap.size (some g) k a e /\
  ∀j (h:j<l.length),∃cs:List Value,cs.length=9/\(∀i,i<9->arr[j*9+i]?=cs[i]?)/\(j<k->SepT wr f (a j) (e j) cs l[j])/\(k<=j->TmAt w f cs l[j])
theorem LitI.start {f N:Nat} {w wr:World} {l:List Tm} {lo1:zzA} {hi:Nat} (h:SlS wr (fun _ _=>TmAt w f) 44 9 (N+2) hi lo1 l):LitI f N w l lo1 0 wr:=by
 rcases h with h|⟨b,arr,a,e,e1,hb1,hb2,hg,hv,hx⟩
 ·exact .inl h
 ·refine .inr ⟨b,arr,a,e,e1,hb1,hg,fun j hj=>absurd hj (Nat.not_lt_zero _),fun j hj=>?_⟩
  obtain⟨cs,k1,k2,k3⟩:=hx j hj
  exact⟨cs,k1,k2,fun h=>absurd h (Nat.not_lt_zero _),fun _=>k3⟩
theorem LitI.stop {f N:Nat} {w wr:World} {l:List Tm} {lo1:zzA} (h:LitI f N w l lo1 l.length wr):SlS wr (SepT wr f) 44 9 (N+2) wr.heap.size lo1 l:=by
 rcases h with h|⟨g,arr,a,e,e1,hb1,hg,hv,hx⟩
 ·exact .inl h
 ·refine .inr ⟨g,arr,a,e,e1,hb1,lt_of_row hg,hg,hv,fun j hj=>?_⟩
  obtain⟨cs,k1,k2,k3,-⟩:=hx j hj
  exact⟨cs,k1,k2,k3 hj⟩
theorem LitI.next {f N:Nat} {w wr:World} {l:List Tm} {lo1:zzA} {k:Nat} (h:LitI f N w l lo1 k wr) (hk:k<l.length): ∃g arr so c f',f=f'+1/\lo1=some ⟨g,0,none⟩/\N+2<=g/\wr.heap[g]?=some (.cells arr 44 (0,0))/\k*9+9<=arr.size /\
  (∀i,i<9->wr.cell? ⟨g,k*9+i,none⟩=(tmRow l[k] so c)[i]?)/\SlAt w 9 (TmAt w f') so l[k].items/\l[k].Ok:=by
 rcases h with h|⟨g,arr,a,e,e1,hb1,hg,hv,hx⟩
 ·rw [h]at hk;exact absurd hk (Nat.not_lt_zero _)
 ·obtain⟨cs,k1,k2,-,k4⟩:=hx k hk
  have h8:k*9+8<arr.size:=by
   have:=k2 8 (by decide)
   rw [List.getElem?_eq_getElem (by omega)]at this
   exact(Array.getElem?_eq_some_iff.1 this).1
  cases f with
  |zero=>exact(k4 (Nat.le_refl _)).elim
  |succ f'=>
   obtain⟨⟨so,c,e2,hs⟩,ho⟩:=k4 (Nat.le_refl _)
   exact⟨g,arr,so,c,f',rfl,e1,hb1,hg,by omega,fun i hi=>by rw [cell_of_row _ _ _ _ _ _ hg,k2 i hi,e2];rfl,hs,ho⟩
theorem LitI.step {f N:Nat} {w wr w2:World} {l:List Tm} {g:Nat} {k:Nat} {so:zzA} {c:Nat} (h:LitI (f+1) N w l (some ⟨g,0,none⟩) k wr) (hk:k<l.length) (hN:N+2<=wr.heap.size) (hb:Below wr.heap.size wr w2)
  (hs:SlS w2 (SepT w2 f) 44 9 wr.heap.size w2.heap.size so l[k].items) (ho:l[k].Ok):LitI (f+1) N w l (some ⟨g,0,none⟩) (k+1) (setL g (tmRow l[k] so c) (k*9) w2):=by
 rcases h with h|⟨g',arr,a,e,e1,hb1,hg,hv,hx⟩
 ·exact .inl h
 ·obtain rfl:g=g':=by
   have:=Option.some.inj e1
   injection this
  have hlt:=lt_of_row hg
  have hg2:=(hb.block g hlt).trans hg
  have hlen:(tmRow l[k] so c).length=9:=rfl
  have h8:k*9+9<=arr.size:=by
   obtain⟨cs,k1,k2,-,-⟩:=hx k hk
   have:=k2 8 (by decide)
   rw [List.getElem?_eq_getElem (by omega)]at this
   have:=(Array.getElem?_eq_some_iff.1 this).1
   omega
  obtain⟨arr',q1,q2⟩:=setL_row (tmRow l[k] so c) (k*9) w2 arr hg2 (by rw [hlen];exact h8)
  have hkk: ∀b,b≠g->(setL g (tmRow l[k] so c) (k*9) w2).heap[b]?=w2.heap[b]?:=fun b hbg=>setL_other hbg _ _ _
  have hsz:=setL_size (g:=g) (tmRow l[k] so c) (k*9) w2
  refine .inr ⟨g,arr',fun j=>if j<k then a j else wr.heap.size,fun j=>if j<k then e j else w2.heap.size,rfl,hb1,q1,fun j hj=>?_,fun j hj=>?_⟩
  ·by_cases d:j<k
   ·obtain⟨g1,g2,g3,g4,g5⟩:=hv j d
    simp only [d,if_true]
    refine⟨g1,g2,by rw [hsz];have:=hb.size;omega,g4,fun i hi=>?_⟩
    rw [if_pos (by omega)];exact g5 i hi
   ·simp only [d,if_false]
    refine⟨hN,hb.size,by rw [hsz];exact Nat.le_refl _,fun q hq=>.inl (by have:=Option.some.inj hq;omega),fun i hi=>?_⟩
    by_cases d2:i<k
    ·rw [if_pos d2];exact(hv i d2).2.2.1
    ·omega
  ·obtain⟨cs,k1,k2,k3,k4⟩:=hx j hj
   by_cases d:j=k
   ·subst d
    refine⟨tmRow l[j] so c,hlen,fun i hi=>?_,fun _=>?_,fun h=>by omega⟩
    ·rw [q2,if_pos ⟨Nat.le_add_right _ _,by rw [hlen];omega⟩,Nat.add_sub_cancel_left]
    ·simp only [Nat.lt_irrefl,if_false]
     refine⟨⟨so,c,rfl,hs.kept (fun b b1 b2=>hkk b (by omega)) (Nat.le_refl _) (Nat.le_refl _) fun a e cs t ha he hx=>hx.kept (fun b b1 b2=>hkk b (by omega)) (Nat.le_refl _) (Nat.le_refl _)⟩,ho⟩
   ·refine⟨cs,k1,fun i hi=>?_,fun hjk=>?_,fun hjk=>k4 (by omega)⟩
    ·rw [q2,if_neg (by rw [hlen];omega),k2 i hi]
    ·have hj2:j<k:=by omega
     simp only [hj2,if_true]
     obtain⟨v1,v2,v3,v4,-⟩:=hv j hj2
     exact(k3 hj2).kept (fun b b1 b2=>(hkk b (by rcases v4 g rfl with h|h<;>omega)).trans (hb.block b (by omega))) (Nat.le_refl _) (Nat.le_refl _)
def InsI (M:Nat) (w:World) (l:List RIns) (co1:Option Addr) (k:Nat) (wr:World):Prop:=
 l= []\/ ∃g arr a e,co1=some ⟨g,0,none⟩/\M<=g/\wr.heap[g]?=some (.cells arr 73 (0,0))/\Ivs M wr.heap.size (some g) k a e /\
  ∀j (h:j<l.length),∃cs:List Value,cs.length=10/\(∀i,i<10->arr[j*10+i]?=cs[i]?)/\(j<k->InsS wr (a j) (e j) cs l[j])/\(k<=j->InsR w cs l[j])
theorem InsI.start {M:Nat} {w wr:World} {l:List RIns} {co1:zzA} {hi:Nat} (h:SlS wr (fun _ _=>InsR w) 73 10 M hi co1 l):InsI M w l co1 0 wr:=by
 rcases h with h|⟨b,arr,a,e,e1,hb1,hb2,hg,hv,hx⟩
 ·exact .inl h
 ·refine .inr ⟨b,arr,a,e,e1,hb1,hg,fun j hj=>absurd hj (Nat.not_lt_zero _),fun j hj=>?_⟩
  obtain⟨cs,k1,k2,k3⟩:=hx j hj
  exact⟨cs,k1,k2,fun h=>absurd h (Nat.not_lt_zero _),fun _=>k3⟩
theorem InsI.stop {M:Nat} {w wr:World} {l:List RIns} {co1:zzA} (h:InsI M w l co1 l.length wr):SlS wr (InsS wr) 73 10 M wr.heap.size co1 l:=by
 rcases h with h|⟨g,arr,a,e,e1,hb1,hg,hv,hx⟩
 ·exact .inl h
 ·refine .inr ⟨g,arr,a,e,e1,hb1,lt_of_row hg,hg,hv,fun j hj=>?_⟩
  obtain⟨cs,k1,k2,k3,-⟩:=hx j hj
  exact⟨cs,k1,k2,k3 hj⟩
theorem InsI.next {M:Nat} {w wr:World} {l:List RIns} {co1:zzA} {k:Nat} (h:InsI M w l co1 k wr) (hk:k<l.length): ∃g arr so sc zo zc go gc,co1=some ⟨g,0,none⟩/\M<=g/\wr.heap[g]?=some (.cells arr 73 (0,0))/\k*10+10<=arr.size /\
  (∀i,i<10->wr.cell? ⟨g,k*10+i,none⟩=(insRow l[k] so sc zo zc go gc)[i]?)/\SlAt w 2 ArgR so l[k].src/\SlAt w 2 CaseR zo l[k].cases/\SlAt w 6 SegR go l[k].segs/\InsB l[k]:=by
 rcases h with h|⟨g,arr,a,e,e1,hb1,hg,hv,hx⟩
 ·rw [h]at hk;exact absurd hk (Nat.not_lt_zero _)
 ·obtain⟨cs,k1,k2,-,k4⟩:=hx k hk
  have h8:k*10+9<arr.size:=by
   have:=k2 9 (by decide)
   rw [List.getElem?_eq_getElem (by omega)]at this
   exact(Array.getElem?_eq_some_iff.1 this).1
  obtain⟨⟨so,sc,zo,zc,go,gc,e2,g1,g2,g3⟩,ho⟩:=k4 (Nat.le_refl _)
  exact⟨g,arr,so,sc,zo,zc,go,gc,e1,hb1,hg,by omega,fun i hi=>by rw [cell_of_row _ _ _ _ _ _ hg,k2 i hi,e2];rfl,g1,g2,g3,ho⟩
theorem InsI.step {M:Nat} {w wr w2:World} {l:List RIns} {g:Nat} {k:Nat} {so zo go:zzA} {sc zc gc:Nat} (h:InsI M w l (some ⟨g,0,none⟩) k wr) (hk:k<l.length) (hN:M<=wr.heap.size) (hb:Below wr.heap.size wr w2)
  (h1:SlS w2 (fun _ _=>ArgR) 68 2 wr.heap.size w2.heap.size so l[k].src) (h2:SlS w2 (fun _ _=>CaseR) 124 2 wr.heap.size w2.heap.size zo l[k].cases) (h3:SlS w2 (fun _ _=>SegR) 127 6 wr.heap.size w2.heap.size go l[k].segs):
  InsI M w l (some ⟨g,0,none⟩) (k+1) (((w2.setCell ⟨g,k*10+3,none⟩ (.slice so l[k].src.length sc)).setCell ⟨g,k*10+8,none⟩ (.slice zo l[k].cases.length zc)).setCell ⟨g,k*10+9,none⟩ (.slice go l[k].segs.length gc)):=by
 rcases h with h|⟨g',arr,a,e,e1,hb1,hg,hv,hx⟩
 ·exact .inl h
 ·obtain rfl:g=g':=by
   have:=Option.some.inj e1
   injection this
  have hlt:=lt_of_row hg
  have hg2:=(hb.block g hlt).trans hg
  have h8:k*10+10<=arr.size:=by
   obtain⟨cs,k1,k2,-,-⟩:=hx k hk
   have:=k2 9 (by decide)
   rw [List.getElem?_eq_getElem (by omega)]at this
   have:=(Array.getElem?_eq_some_iff.1 this).1
   omega
  have q1:=heap_setCell_same _ _ (k*10+9) _ _ (.slice go l[k].segs.length gc) (heap_setCell_same _ _ (k*10+8) _ _ (.slice zo l[k].cases.length zc) (heap_setCell_same _ _ (k*10+3) _ _ (.slice so l[k].src.length sc) hg2))
  have hkk: ∀b,b≠g->(((w2.setCell ⟨g,k*10+3,none⟩ (.slice so l[k].src.length sc)).setCell ⟨g,k*10+8,none⟩ (.slice zo l[k].cases.length zc)).setCell ⟨g,k*10+9,none⟩ (.slice go l[k].segs.length gc)).heap[b]?=w2.heap[b]?:=fun b hbg=>
   (heap_setCell_other _ _ _ _ hbg).trans ((heap_setCell_other _ _ _ _ hbg).trans (heap_setCell_other _ _ _ _ hbg))
  have hsz:(((w2.setCell ⟨g,k*10+3,none⟩ (.slice so l[k].src.length sc)).setCell ⟨g,k*10+8,none⟩ (.slice zo l[k].cases.length zc)).setCell ⟨g,k*10+9,none⟩ (.slice go l[k].segs.length gc)).heap.size=w2.heap.size:=by simp [World.setCell]
  generalize((w2.setCell ⟨g,k*10+3,none⟩ (.slice so l[k].src.length sc)).setCell ⟨g,k*10+8,none⟩ (.slice zo l[k].cases.length zc)).setCell ⟨g,k*10+9,none⟩ (.slice go l[k].segs.length gc)=w5 at *
  have far: ∀j i,j≠k->i<10->(((arr.setIfInBounds (k*10+3) (.slice so l[k].src.length sc)).setIfInBounds (k*10+8) (.slice zo l[k].cases.length zc)).setIfInBounds (k*10+9) (.slice go l[k].segs.length gc))[j*10+i]?=arr[j*10+i]?:=fun j i hj hi=>by
   rw [Array.getElem?_setIfInBounds_ne (by omega),Array.getElem?_setIfInBounds_ne (by omega),Array.getElem?_setIfInBounds_ne (by omega)]
  refine .inr ⟨g,_,fun j=>if j<k then a j else wr.heap.size,fun j=>if j<k then e j else w2.heap.size,rfl,hb1,q1,fun j hj=>?_,fun j hj=>?_⟩
  ·by_cases d:j<k
   ·obtain⟨g1,g2,g3,g4,g5⟩:=hv j d
    simp only [d,if_true]
    refine⟨g1,g2,by rw [hsz];have:=hb.size;omega,g4,fun i hi=>?_⟩
    rw [if_pos (by omega)];exact g5 i hi
   ·simp only [d,if_false]
    refine⟨hN,hb.size,by rw [hsz];exact Nat.le_refl _,fun q hq=>.inl (by have:=Option.some.inj hq;omega),fun i hi=>?_⟩
    by_cases d2:i<k
    ·rw [if_pos d2];exact(hv i d2).2.2.1
    ·omega
  ·obtain⟨cs,k1,k2,k3,k4⟩:=hx j hj
   by_cases d:j=k
   ·subst d
    obtain⟨⟨so0,sc0,zo0,zc0,go0,gc0,e2,-,-,-⟩,ho⟩:=k4 (Nat.le_refl _)
    refine⟨insRow l[j] so sc zo zc go gc,rfl,fun i hi=>?_,fun _=>?_,fun h=>by omega⟩
    ·have hi':i=0\/i=1\/i=2\/i=3\/i=4\/i=5\/i=6\/i=7\/i=8\/i=9:=by omega
     have k2i:=k2 i hi
     subst e2
     rcases hi' with rfl|rfl|rfl|rfl|rfl|rfl|rfl|rfl|rfl|rfl
     all_goals first
      |(rw [Array.getElem?_setIfInBounds_self_of_lt (by simp;omega)];rfl)
      |(rw [Array.getElem?_setIfInBounds_ne (by omega),Array.getElem?_setIfInBounds_self_of_lt (by simp;omega)];rfl)
      |(rw [Array.getElem?_setIfInBounds_ne (by omega),Array.getElem?_setIfInBounds_ne (by omega),Array.getElem?_setIfInBounds_self_of_lt (by omega)];rfl)
      |(rw [Array.getElem?_setIfInBounds_ne (by omega),Array.getElem?_setIfInBounds_ne (by omega),Array.getElem?_setIfInBounds_ne (by omega),k2i];rfl)
    ·simp only [Nat.lt_irrefl,if_false]
     exact⟨⟨so,sc,zo,zc,go,gc,rfl,h1.kept (fun b b1 b2=>hkk b (by omega)) (Nat.le_refl _) (Nat.le_refl _) fun _ _ _ _ _ _ h=>h,h2.kept (fun b b1 b2=>hkk b (by omega)) (Nat.le_refl _) (Nat.le_refl _) fun _ _ _ _ _ _ h=>h,h3.kept (fun b b1 b2=>hkk b (by omega)) (Nat.le_refl _) (Nat.le_refl _) fun _ _ _ _ _ _ h=>h⟩,ho⟩
   ·refine⟨cs,k1,fun i hi=>by rw [far j i d hi,k2 i hi],fun hjk=>?_,fun hjk=>k4 (by omega)⟩
    have hj2:j<k:=by omega
    simp only [hj2,if_true]
    obtain⟨v1,v2,v3,v4,-⟩:=hv j hj2
    exact(k3 hj2).kept (fun b b1 b2=>(hkk b (by rcases v4 g rfl with h|h<;>omega)).trans (hb.block b (by omega))) (Nat.le_refl _) (Nat.le_refl _)
section
variable {P:Program} {ops:Array Oper} {Q:Exit->Act->World->Prop} {md:Region.Mode} {S1:World->Prop} {p:Nat}
theorem wpAnyP_two {i j:Nat} {oi oj:Oper} {fuel:Nat} {listed:Array Bool} {a:Act} {w:World} (hr:Region.ready md ops listed= [i,j]) (hi:ops[i]?=some oi) (hj:ops[j]?=some oj) (gi:oi.guard=none) (gj:oj.guard=none)
  (h1: ∀K:Act->World->Prop,Hid (∀a' w',S1 w'->wpAnyP P md ops Q p S1 (fun _=>True) fuel (listed.setIfInBounds i true) a' w'->K a' w')->Oper.wp P oi a w K Q)
  (h2: ∀K:Act->World->Prop,Hid (∀a' w',S1 w'->wpAnyP P md ops Q p S1 (fun _=>True) fuel (listed.setIfInBounds j true) a' w'->K a' w')->Oper.wp P oj a w K Q):
  wpAnyP P md ops Q p S1 (fun _=>True) (fuel+1) listed a w:=by
 refine⟨fun h0=>(by rw [hr]at h0;cases h0),fun k hk=>?_⟩
 rw [hr]at hk
 rcases List.mem_cons.1 hk with rfl|hk
 ·exact wpOp_of hi gi (h1 _ (Lib.hid fun a' w' x y=>⟨⟨x,fun _=>trivial⟩,y⟩))
 ·rw [List.mem_singleton]at hk
  subst hk
  exact wpOp_of hj gj (h2 _ (Lib.hid fun a' w' x y=>⟨⟨x,fun _=>trivial⟩,y⟩))
end
def okT:Tm:=.mk 2 0 0 ⟨#[111,107]⟩ ⟨#[]⟩ 0 [] ⟨#[]⟩ 0
def mvI:RIns:=⟨1,⟨1,0⟩,[⟨3,0⟩],0,0,0,⟨#[]⟩,[],[]⟩
def rtI:RIns:=⟨26,⟨0,0⟩,[],0,0,0,⟨#[]⟩,[],[]⟩
def svU (m:ByteArray) (v:Int) (f:ByteArray):RUnit:=⟨m,v,[okT],[⟨f,0,true,0⟩],[],[mvI,rtI]⟩
def SvUnitQ (m:ByteArray) (v:Int) (f:ByteArray) (w:World) (e:Ending) (w':World):Prop:=
 (∃lo lc fo fc co cc,e= .returned (.agg #[.string m,.int .i64 v,.slice lo 1 lc,.slice fo 1 fc,.slice none 0 0,.slice co 2 cc])/\UP w' (svU m v f) lo fo none co/\SlAt w' 9 (TmAt w' 1) lo [okT])/\Below w.heap.size w w'
theorem small64 {n:Int} (h:decide (-1000<=n/\n<=1000)=true):I64 n:=by have:=of_decide_eq_true h;unfold I64;omega
theorem okT_at (w:World):TmAt w 1 [.int .i64 2,.int .i64 0,.int .i64 0,.string ⟨#[111,107]⟩,.string ⟨#[]⟩,.int .i64 0,.slice none 0 0,.string ⟨#[]⟩,.int .i64 0] okT:=
 ⟨⟨none,0,rfl,.inl rfl⟩,small64 rfl,small64 rfl,small64 rfl,by show(2:Nat)<=_;decide,Nat.zero_le _,small64 rfl,Nat.zero_le _,Nat.zero_le _,small64 rfl⟩
theorem svu_parts {w:World} {O L F C:Nat} {f:ByteArray} {T0 T1 T2 T3:TypeId} (hO:w.heap[O]?=some (.cells #[.int .i64 3,.int .i64 0] T0 (0,0)))
  (hL:w.heap[L]?=some (.cells #[.int .i64 2,.int .i64 0,.int .i64 0,.string ⟨#[111,107]⟩,.string ⟨#[]⟩,.int .i64 0,.slice none 0 0,.string ⟨#[]⟩,.int .i64 0] T1 (0,0)))
  (hF:w.heap[F]?=some (.cells #[.string f,.int .i64 0,.bool true,.int .i64 0] T2 (0,0))) (hC:w.heap[C]?=some (.cells #[.int .i64 1,.int .i64 1,.int .i64 0,.slice (some ⟨O,0,none⟩) 1 1,.int .i64 0,.int .i64 0,.int .i64 0,.string ⟨#[]⟩,.slice none 0 0,.slice none 0 0,.int .i64 26,.int .i64 0,.int .i64 0,.slice none 0 0,.int .i64 0,.int .i64 0,.int .i64 0,.string ⟨#[]⟩,.slice none 0 0,.slice none 0 0] T3 (0,0))) (hf:f.size<=maxLen):
  SlAt w 9 (TmAt w 1) (some ⟨L,0,none⟩) [okT]/\SlAt w 4 FuncR (some ⟨F,0,none⟩) [⟨f,0,true,0⟩]/\SlAt w 10 (InsR w) (some ⟨C,0,none⟩) [mvI,rtI]:=by
 have ha:SlAt w 2 ArgR (some ⟨O,0,none⟩) [⟨3,0⟩]:=sl_rows hO ⟨_,[],rfl,rfl,⟨rfl,small64 rfl,small64 rfl⟩,rfl⟩
 refine⟨sl_rows hL ⟨_,[],rfl,rfl,okT_at w,rfl⟩,sl_rows hF ⟨_,[],rfl,rfl,⟨rfl,hf,small64 rfl,small64 rfl⟩,rfl⟩,sl_rows hC ⟨[.int .i64 1,.int .i64 1,.int .i64 0,.slice (some ⟨O,0,none⟩) 1 1,.int .i64 0,.int .i64 0,.int .i64 0,.string ⟨#[]⟩,.slice none 0 0,.slice none 0 0],[.int .i64 26,.int .i64 0,.int .i64 0,.slice none 0 0,.int .i64 0,.int .i64 0,.int .i64 0,.string ⟨#[]⟩,.slice none 0 0,.slice none 0 0],rfl,rfl,⟨⟨some ⟨O,0,none⟩,1,none,0,none,0,rfl,ha,.inl rfl,.inl rfl⟩,small64 rfl,small64 rfl,small64 rfl,by show(1:Nat)<=_;decide,small64 rfl,small64 rfl,small64 rfl,Nat.zero_le _,Nat.zero_le _,Nat.zero_le _⟩,[.int .i64 26,.int .i64 0,.int .i64 0,.slice none 0 0,.int .i64 0,.int .i64 0,.int .i64 0,.string ⟨#[]⟩,.slice none 0 0,.slice none 0 0],[],rfl,rfl,⟨⟨none,0,none,0,none,0,rfl,.inl rfl,.inl rfl,.inl rfl⟩,small64 rfl,small64 rfl,small64 rfl,Nat.zero_le _,small64 rfl,small64 rfl,small64 rfl,Nat.zero_le _,Nat.zero_le _,Nat.zero_le _⟩,rfl⟩⟩
theorem svunit_any (m f:ByteArray) (v:Int) (w:World) (hm:m.size<=maxLen) (hf:f.size<=maxLen) (hv:I64 v):
  Calls Tryz.prog 7 #[.string m,.int .i64 v,.string f] w (SvUnitQ m v f w):=by
 obtain⟨h0,h1,h2,hb⟩:=three_allocs w (.cells #[.string m,.int .i64 v,.slice (some ⟨w.heap.size+1+1+1,0,none⟩) 1 1,.slice (some ⟨w.heap.size+1+1+1+1,0,none⟩) 1 1,.slice none 0 0,.slice (some ⟨w.heap.size+1+1+1+1+1,0,none⟩) 2 2] 31) (.cells #[.int .i64 3,.int .i64 0] 68) (.cells #[.int .i64 1,.int .i64 1,.int .i64 0,.slice (some ⟨w.heap.size+1,0,none⟩) 1 1,.int .i64 0,.int .i64 0,.int .i64 0,.string ⟨#[]⟩,.slice none 0 0,.slice none 0 0] 73)
 obtain⟨k0,k1,k2,kb⟩:=three_allocs (((w.alloc (.cells #[.string m,.int .i64 v,.slice (some ⟨w.heap.size+1+1+1,0,none⟩) 1 1,.slice (some ⟨w.heap.size+1+1+1+1,0,none⟩) 1 1,.slice none 0 0,.slice (some ⟨w.heap.size+1+1+1+1+1,0,none⟩) 2 2] 31)).alloc (.cells #[.int .i64 3,.int .i64 0] 68)).alloc (.cells #[.int .i64 1,.int .i64 1,.int .i64 0,.slice (some ⟨w.heap.size+1,0,none⟩) 1 1,.int .i64 0,.int .i64 0,.int .i64 0,.string ⟨#[]⟩,.slice none 0 0,.slice none 0 0] 73)) (.cells #[.int .i64 2,.int .i64 0,.int .i64 0,.string ⟨#[111,107]⟩,.string ⟨#[]⟩,.int .i64 0,.slice none 0 0,.string ⟨#[]⟩,.int .i64 0] 44) (.cells #[.string f,.int .i64 0,.bool true,.int .i64 0] 75) (.cells #[.int .i64 1,.int .i64 1,.int .i64 0,.slice (some ⟨w.heap.size+1,0,none⟩) 1 1,.int .i64 0,.int .i64 0,.int .i64 0,.string ⟨#[]⟩,.slice none 0 0,.slice none 0 0,.int .i64 26,.int .i64 0,.int .i64 0,.slice none 0 0,.int .i64 0,.int .i64 0,.int .i64 0,.string ⟨#[]⟩,.slice none 0 0,.slice none 0 0] 73)
 have hs:(((w.alloc (.cells #[.string m,.int .i64 v,.slice (some ⟨w.heap.size+1+1+1,0,none⟩) 1 1,.slice (some ⟨w.heap.size+1+1+1+1,0,none⟩) 1 1,.slice none 0 0,.slice (some ⟨w.heap.size+1+1+1+1+1,0,none⟩) 2 2] 31)).alloc (.cells #[.int .i64 3,.int .i64 0] 68)).alloc (.cells #[.int .i64 1,.int .i64 1,.int .i64 0,.slice (some ⟨w.heap.size+1,0,none⟩) 1 1,.int .i64 0,.int .i64 0,.int .i64 0,.string ⟨#[]⟩,.slice none 0 0,.slice none 0 0] 73)).heap.size=w.heap.size+1+1+1:=by simp
 rw [hs]at k0 k1 k2 kb
 have HB:=Lib.hid (hb.trans (kb.mono (by omega)))
 have HZ:=Lib.hid ((kb.block w.heap.size (by omega)).trans h0);have HO:=Lib.hid ((kb.block (w.heap.size+1) (by omega)).trans h1)
 refine zzK3 k0 k1 k2 fun K0 K1 K2=>?_
 have HMF:=Lib.hid (And.intro hm hf)
 have HV:=Lib.hid hv
 clear h0 h1 h2 hb k0 k1 k2 kb hs hm hf hv
 go_in
 go_wp2_with fail
 generalize(((((w.alloc (.cells #[.string m,.int .i64 v,.slice (some ⟨w.heap.size+1+1+1,0,none⟩) 1 1,.slice (some ⟨w.heap.size+1+1+1+1,0,none⟩) 1 1,.slice none 0 0,.slice (some ⟨w.heap.size+1+1+1+1+1,0,none⟩) 2 2] 31)).alloc (.cells #[.int .i64 3,.int .i64 0] 68)).alloc (.cells #[.int .i64 1,.int .i64 1,.int .i64 0,.slice (some ⟨w.heap.size+1,0,none⟩) 1 1,.int .i64 0,.int .i64 0,.int .i64 0,.string ⟨#[]⟩,.slice none 0 0,.slice none 0 0] 73)).alloc (.cells #[.int .i64 2,.int .i64 0,.int .i64 0,.string ⟨#[111,107]⟩,.string ⟨#[]⟩,.int .i64 0,.slice none 0 0,.string ⟨#[]⟩,.int .i64 0] 44)).alloc (.cells #[.string f,.int .i64 0,.bool true,.int .i64 0] 75)).alloc (.cells #[.int .i64 1,.int .i64 1,.int .i64 0,.slice (some ⟨w.heap.size+1,0,none⟩) 1 1,.int .i64 0,.int .i64 0,.int .i64 0,.string ⟨#[]⟩,.slice none 0 0,.slice none 0 0,.int .i64 26,.int .i64 0,.int .i64 0,.slice none 0 0,.int .i64 0,.int .i64 0,.int .i64 0,.string ⟨#[]⟩,.slice none 0 0,.slice none 0 0] 73)=W6 at *
 generalize hB:w.heap.size=B at *
 have hz:=HZ.out;have ho:=HO.out;have hbw:=HB.out
 have hk0:=K0.out;have hk1:=K1.out;have hk2:=K2.out
 refine bodyPost_ret (results_cell_row rfl _ _ B _ _ _ _ rfl hz Tryz.underlying31 rfl (by kernel_rfl)) rfl ?_
 obtain⟨q1,q2,q3⟩:=svu_parts ho hk0 hk1 hk2 HMF.out.2
 exact⟨⟨_,_,_,_,_,_,rfl,⟨q1.imp fun _ _ h=>⟨1,h⟩,q2,.inl rfl,q3,Nat.le_trans HMF.out.1 (by decide),HV.out,by show(1:Nat)<=_;decide,by show(1:Nat)<=_;decide,by show(0:Nat)<=_;decide,by show(2:Nat)<=_;decide⟩,q1⟩,by rw [hB];exact hbw⟩
def namedB (x:RIns):Bool:=
 if x.op=13 then((x.name.toList== [123,125])||((x.name.toList== [124])&&((x.src.length:Int)==2)))||((!(x.name.toList== [43,43])&&operB x.name x.src.length)||(classB x.name x.src.length==1))
 else if x.op=14 then(operB x.name x.src.length||(classB x.name x.src.length==1))||(classB x.name x.src.length==2)
 else if x.op=15 then((x.name.toList== [33])&&(x.n==2))||(classB x.name x.n==3)
 else true
theorem named_13 (b o:Nat) (x:RIns) (so co go:zzA) (sc cc gc:Nat) (w:World) (hsp:SpaceAt w) (hx:IBox w b o x so co go sc cc gc) (hs:x.name.size<=140737488355328) (hop:x.op=13):
  Calls Tryz.prog 85 #[.pointer (some ⟨b,o,none⟩)] w fun e w'=>e= .returned (.bool (namedB x))/\Below w.heap.size w w':=by
 have c0:=hx.c0;have c3:=hx.c3;have c5:=hx.c5;have c7:=hx.c7
 have r2:=hx.rsrc
 have hlt:=hx.lt
 have hrn:=hx.rn
 have hn1:I64 (x.src.length:Int):=by unfold I64;omega
 have E0:Hid (namedB x=(((x.name.toList== [123,125])||((x.name.toList== [124])&&((x.src.length:Int)==2)))||((!(x.name.toList== [43,43])&&operB x.name x.src.length)||(classB x.name x.src.length==1)))):=Lib.hid (by unfold namedB;rw [if_pos hop])
 rw [hop]at c0
 have hO:=fun wx=>operator_any x.name x.src.length wx
 have hCl:=class_any x.name x.src.length w hsp hs hn1
 clear hop hx hsp
 generalize namedB x=r at *
 generalize operB x.name x.src.length=ob at *
 generalize classB x.name x.src.length=cl at *
 generalize x.name=nm at *
 generalize x.src.length=ln at *
 cases t1:(nm.toList== [123,125])with
 |true=>
  simp only [t1]at E0
  simp only [Bool.true_or,Bool.or_true,Bool.false_or,Bool.or_false,Bool.and_true,Bool.and_false,Bool.true_and,Bool.false_and,Bool.not_true,Bool.not_false]at E0
  go_enter Tryz.func85,Tryz.ntmps85
  go_wp2_with (first|(go_at_call 119;refine(hO _).mono ?_;rintro e w1 ⟨rfl,rfl⟩)|(go_at_call 120;refine hCl.mono ?_;rintro e w5 ⟨rfl,hb5⟩))
  all_goals go_ret
  all_goals first
   |exact⟨retb E0.out.symm,Below.refl _ _⟩
   |exact⟨retb E0.out.symm,hb5⟩
 |false=>
  simp only [t1]at E0
  cases t2:(nm.toList== [124])with
  |true=>
   simp only [t2]at E0
   cases q2:((ln:Int)==2)with
   |true=>
    simp only [q2]at E0
    simp only [Bool.true_or,Bool.or_true,Bool.false_or,Bool.or_false,Bool.and_true,Bool.and_false,Bool.true_and,Bool.false_and,Bool.not_true,Bool.not_false]at E0
    go_enter Tryz.func85,Tryz.ntmps85
    go_wp2_with (first|(go_at_call 119;refine(hO _).mono ?_;rintro e w1 ⟨rfl,rfl⟩)|(go_at_call 120;refine hCl.mono ?_;rintro e w5 ⟨rfl,hb5⟩))
    all_goals go_ret
    all_goals first
     |exact⟨retb E0.out.symm,Below.refl _ _⟩
     |exact⟨retb E0.out.symm,hb5⟩
   |false=>
    simp only [q2]at E0
    cases t3:(nm.toList== [43,43])with
    |true=>
     simp only [t3]at E0
     cases q1:(cl==1)with
     |true=>
      simp only [q1]at E0
      simp only [Bool.true_or,Bool.or_true,Bool.false_or,Bool.or_false,Bool.and_true,Bool.and_false,Bool.true_and,Bool.false_and,Bool.not_true,Bool.not_false]at E0
      go_enter Tryz.func85,Tryz.ntmps85
      go_wp2_with (first|(go_at_call 119;refine(hO _).mono ?_;rintro e w1 ⟨rfl,rfl⟩)|(go_at_call 120;refine hCl.mono ?_;rintro e w5 ⟨rfl,hb5⟩))
      all_goals go_ret
      all_goals first
       |exact⟨retb E0.out.symm,Below.refl _ _⟩
       |exact⟨retb E0.out.symm,hb5⟩
     |false=>
      simp only [q1]at E0
      simp only [Bool.true_or,Bool.or_true,Bool.false_or,Bool.or_false,Bool.and_true,Bool.and_false,Bool.true_and,Bool.false_and,Bool.not_true,Bool.not_false]at E0
      go_enter Tryz.func85,Tryz.ntmps85
      go_wp2_with (first|(go_at_call 119;refine(hO _).mono ?_;rintro e w1 ⟨rfl,rfl⟩)|(go_at_call 120;refine hCl.mono ?_;rintro e w5 ⟨rfl,hb5⟩))
      all_goals go_ret
      all_goals first
       |exact⟨retb E0.out.symm,Below.refl _ _⟩
       |exact⟨retb E0.out.symm,hb5⟩
    |false=>
     simp only [t3]at E0
     cases ob with
     |true=>
      simp only [Bool.true_or,Bool.or_true,Bool.false_or,Bool.or_false,Bool.and_true,Bool.and_false,Bool.true_and,Bool.false_and,Bool.not_true,Bool.not_false]at E0
      go_enter Tryz.func85,Tryz.ntmps85
      go_wp2_with (first|(go_at_call 119;refine(hO _).mono ?_;rintro e w1 ⟨rfl,rfl⟩)|(go_at_call 120;refine hCl.mono ?_;rintro e w5 ⟨rfl,hb5⟩))
      all_goals go_ret
      all_goals first
       |exact⟨retb E0.out.symm,Below.refl _ _⟩
       |exact⟨retb E0.out.symm,hb5⟩
     |false=>
      cases q1:(cl==1)with
      |true=>
       simp only [q1]at E0
       simp only [Bool.true_or,Bool.or_true,Bool.false_or,Bool.or_false,Bool.and_true,Bool.and_false,Bool.true_and,Bool.false_and,Bool.not_true,Bool.not_false]at E0
       go_enter Tryz.func85,Tryz.ntmps85
       go_wp2_with (first|(go_at_call 119;refine(hO _).mono ?_;rintro e w1 ⟨rfl,rfl⟩)|(go_at_call 120;refine hCl.mono ?_;rintro e w5 ⟨rfl,hb5⟩))
       all_goals go_ret
       all_goals first
        |exact⟨retb E0.out.symm,Below.refl _ _⟩
        |exact⟨retb E0.out.symm,hb5⟩
      |false=>
       simp only [q1]at E0
       simp only [Bool.true_or,Bool.or_true,Bool.false_or,Bool.or_false,Bool.and_true,Bool.and_false,Bool.true_and,Bool.false_and,Bool.not_true,Bool.not_false]at E0
       go_enter Tryz.func85,Tryz.ntmps85
       go_wp2_with (first|(go_at_call 119;refine(hO _).mono ?_;rintro e w1 ⟨rfl,rfl⟩)|(go_at_call 120;refine hCl.mono ?_;rintro e w5 ⟨rfl,hb5⟩))
       all_goals go_ret
       all_goals first
        |exact⟨retb E0.out.symm,Below.refl _ _⟩
        |exact⟨retb E0.out.symm,hb5⟩
  |false=>
   simp only [t2]at E0
   cases t3:(nm.toList== [43,43])with
   |true=>
    simp only [t3]at E0
    cases q1:(cl==1)with
    |true=>
     simp only [q1]at E0
     simp only [Bool.true_or,Bool.or_true,Bool.false_or,Bool.or_false,Bool.and_true,Bool.and_false,Bool.true_and,Bool.false_and,Bool.not_true,Bool.not_false]at E0
     go_enter Tryz.func85,Tryz.ntmps85
     go_wp2_with (first|(go_at_call 119;refine(hO _).mono ?_;rintro e w1 ⟨rfl,rfl⟩)|(go_at_call 120;refine hCl.mono ?_;rintro e w5 ⟨rfl,hb5⟩))
     all_goals go_ret
     all_goals first
      |exact⟨retb E0.out.symm,Below.refl _ _⟩
      |exact⟨retb E0.out.symm,hb5⟩
    |false=>
     simp only [q1]at E0
     simp only [Bool.true_or,Bool.or_true,Bool.false_or,Bool.or_false,Bool.and_true,Bool.and_false,Bool.true_and,Bool.false_and,Bool.not_true,Bool.not_false]at E0
     go_enter Tryz.func85,Tryz.ntmps85
     go_wp2_with (first|(go_at_call 119;refine(hO _).mono ?_;rintro e w1 ⟨rfl,rfl⟩)|(go_at_call 120;refine hCl.mono ?_;rintro e w5 ⟨rfl,hb5⟩))
     all_goals go_ret
     all_goals first
      |exact⟨retb E0.out.symm,Below.refl _ _⟩
      |exact⟨retb E0.out.symm,hb5⟩
   |false=>
    simp only [t3]at E0
    cases ob with
    |true=>
     simp only [Bool.true_or,Bool.or_true,Bool.false_or,Bool.or_false,Bool.and_true,Bool.and_false,Bool.true_and,Bool.false_and,Bool.not_true,Bool.not_false]at E0
     go_enter Tryz.func85,Tryz.ntmps85
     go_wp2_with (first|(go_at_call 119;refine(hO _).mono ?_;rintro e w1 ⟨rfl,rfl⟩)|(go_at_call 120;refine hCl.mono ?_;rintro e w5 ⟨rfl,hb5⟩))
     all_goals go_ret
     all_goals first
      |exact⟨retb E0.out.symm,Below.refl _ _⟩
      |exact⟨retb E0.out.symm,hb5⟩
    |false=>
     cases q1:(cl==1)with
     |true=>
      simp only [q1]at E0
      simp only [Bool.true_or,Bool.or_true,Bool.false_or,Bool.or_false,Bool.and_true,Bool.and_false,Bool.true_and,Bool.false_and,Bool.not_true,Bool.not_false]at E0
      go_enter Tryz.func85,Tryz.ntmps85
      go_wp2_with (first|(go_at_call 119;refine(hO _).mono ?_;rintro e w1 ⟨rfl,rfl⟩)|(go_at_call 120;refine hCl.mono ?_;rintro e w5 ⟨rfl,hb5⟩))
      all_goals go_ret
      all_goals first
       |exact⟨retb E0.out.symm,Below.refl _ _⟩
       |exact⟨retb E0.out.symm,hb5⟩
     |false=>
      simp only [q1]at E0
      simp only [Bool.true_or,Bool.or_true,Bool.false_or,Bool.or_false,Bool.and_true,Bool.and_false,Bool.true_and,Bool.false_and,Bool.not_true,Bool.not_false]at E0
      go_enter Tryz.func85,Tryz.ntmps85
      go_wp2_with (first|(go_at_call 119;refine(hO _).mono ?_;rintro e w1 ⟨rfl,rfl⟩)|(go_at_call 120;refine hCl.mono ?_;rintro e w5 ⟨rfl,hb5⟩))
      all_goals go_ret
      all_goals first
       |exact⟨retb E0.out.symm,Below.refl _ _⟩
       |exact⟨retb E0.out.symm,hb5⟩
theorem named_14 (b o:Nat) (x:RIns) (so co go:zzA) (sc cc gc:Nat) (w:World) (hsp:SpaceAt w) (hx:IBox w b o x so co go sc cc gc) (hs:x.name.size<=140737488355328) (hop:x.op=14):
  Calls Tryz.prog 85 #[.pointer (some ⟨b,o,none⟩)] w fun e w'=>e= .returned (.bool (namedB x))/\Below w.heap.size w w':=by
 have c0:=hx.c0;have c3:=hx.c3;have c5:=hx.c5;have c7:=hx.c7
 have r2:=hx.rsrc
 have hlt:=hx.lt
 have hrn:=hx.rn
 have hn1:I64 (x.src.length:Int):=by unfold I64;omega
 have E0:Hid (namedB x=((operB x.name x.src.length||(classB x.name x.src.length==1))||(classB x.name x.src.length==2))):=Lib.hid (by unfold namedB;rw [if_neg (by omega),if_pos hop])
 rw [hop]at c0
 have hO:=fun wx=>operator_any x.name x.src.length wx
 have hCl:=class_any x.name x.src.length w hsp hs hn1
 clear hop hsp
 have HX:=Lib.hid hx
 clear hx
 generalize namedB x=r at *
 generalize operB x.name x.src.length=ob at *
 generalize classB x.name x.src.length=cl at *
 generalize x.src.length=ln at *
 cases ob with
 |true=>
  simp only [Bool.true_or,Bool.or_true,Bool.false_or,Bool.or_false]at E0
  go_enter Tryz.func85,Tryz.ntmps85
  go_wp2_with fail
  refine hCl.mono ?_
  rintro e w5 ⟨rfl,hb5⟩
  have d3:=(hb5.cell (p:=⟨b,o+3,none⟩) hlt).trans c3
  have d7:=(hb5.cell (p:=⟨b,o+7,none⟩) hlt).trans c7
  go_wp2_with (go_at_call 119;refine(hO _).mono ?_;rintro e w1 ⟨rfl,rfl⟩)
  all_goals go_ret
  all_goals exact⟨retb E0.out.symm,hb5⟩
 |false=>
  cases q1:(cl==1)with
  |true=>
   simp only [q1]at E0
   simp only [Bool.true_or,Bool.or_true,Bool.false_or,Bool.or_false]at E0
   go_enter Tryz.func85,Tryz.ntmps85
   go_wp2_with fail
   refine hCl.mono ?_
   rintro e w5 ⟨rfl,hb5⟩
   have d3:=(hb5.cell (p:=⟨b,o+3,none⟩) hlt).trans c3
   have d7:=(hb5.cell (p:=⟨b,o+7,none⟩) hlt).trans c7
   go_wp2_with (go_at_call 119;refine(hO _).mono ?_;rintro e w1 ⟨rfl,rfl⟩)
   all_goals go_ret
   all_goals exact⟨retb E0.out.symm,hb5⟩
  |false=>
   simp only [q1]at E0
   cases q2:(cl==2)with
   |true=>
    simp only [q2]at E0
    simp only [Bool.true_or,Bool.or_true,Bool.false_or,Bool.or_false]at E0
    go_enter Tryz.func85,Tryz.ntmps85
    go_wp2_with fail
    refine hCl.mono ?_
    rintro e w5 ⟨rfl,hb5⟩
    have d3:=(hb5.cell (p:=⟨b,o+3,none⟩) hlt).trans c3
    have d7:=(hb5.cell (p:=⟨b,o+7,none⟩) hlt).trans c7
    go_wp2_with (go_at_call 119;refine(hO _).mono ?_;rintro e w1 ⟨rfl,rfl⟩)
    all_goals go_ret
    all_goals exact⟨retb E0.out.symm,hb5⟩
   |false=>
    simp only [q2]at E0
    simp only [Bool.true_or,Bool.or_true,Bool.false_or,Bool.or_false]at E0
    go_enter Tryz.func85,Tryz.ntmps85
    go_wp2_with fail
    refine hCl.mono ?_
    rintro e w5 ⟨rfl,hb5⟩
    have d3:=(hb5.cell (p:=⟨b,o+3,none⟩) hlt).trans c3
    have d7:=(hb5.cell (p:=⟨b,o+7,none⟩) hlt).trans c7
    go_wp2_with (go_at_call 119;refine(hO _).mono ?_;rintro e w1 ⟨rfl,rfl⟩)
    all_goals go_ret
    all_goals exact⟨retb E0.out.symm,hb5⟩
theorem named_15 (b o:Nat) (x:RIns) (so co go:zzA) (sc cc gc:Nat) (w:World) (hsp:SpaceAt w) (hx:IBox w b o x so co go sc cc gc) (hs:x.name.size<=140737488355328) (hop:x.op=15):
  Calls Tryz.prog 85 #[.pointer (some ⟨b,o,none⟩)] w fun e w'=>e= .returned (.bool (namedB x))/\Below w.heap.size w w':=by
 have c0:=hx.c0;have c3:=hx.c3;have c5:=hx.c5;have c7:=hx.c7
 have r2:=hx.rsrc
 have hlt:=hx.lt
 have hrn:=hx.rn
 have hn1:I64 (x.src.length:Int):=by unfold I64;omega
 have E0:Hid (namedB x=(((x.name.toList== [33])&&(x.n==2))||(classB x.name x.n==3))):=Lib.hid (by unfold namedB;rw [if_neg (by omega),if_neg (by omega),if_pos hop])
 rw [hop]at c0
 have hCl: ∀wx,Below w.heap.size w wx->Calls Tryz.prog 120 #[.string x.name,.int .i64 x.n] wx fun e w'=>e= .returned (.int .i64 (classB x.name x.n))/\Below w.heap.size w w':=fun wx hb=>(class_any x.name x.n wx (hsp.below hb) hs hrn).mono fun _ _ ⟨h1,h2⟩=>⟨h1,below_next hb h2⟩
 have hdr:Below w.heap.size w w.drew:=(Below.refl _ _).drew
 have HDR:=Lib.hid hdr;clear hdr
 clear hop hsp hx
 generalize namedB x=r at *
 generalize classB x.name x.n=cl at *
 generalize x.name=nm at *
 generalize x.n=ln at *
 cases t1:(nm.toList== [33])with
 |true=>
  simp only [t1]at E0
  cases q2:(ln==2)with
  |true=>
   simp only [q2]at E0
   simp only [Bool.true_or,Bool.or_true,Bool.false_or,Bool.or_false,Bool.and_true,Bool.and_false,Bool.true_and,Bool.false_and]at E0
   go_enter Tryz.func85,Tryz.ntmps85
   go_wp2_with fail
   go_quiet (fail)
   go_wp2_with fail
   go_ret
   exact⟨retb E0.out.symm,below_drewN (Below.refl _ _) _⟩
  |false=>
   simp only [q2]at E0
   cases q3:(cl==3)with
   |true=>
    simp only [q3]at E0
    simp only [Bool.true_or,Bool.or_true,Bool.false_or,Bool.or_false,Bool.and_true,Bool.and_false,Bool.true_and,Bool.false_and]at E0
    go_enter Tryz.func85,Tryz.ntmps85
    go_wp2_with fail
    first|go_region_held3 (fun w'=>w'.cell? ⟨b,o+7,none⟩=some (.string nm)/\w'.cell? ⟨b,o+5,none⟩=some (.int .i64 ln)) (exact⟨by assumption,by assumption⟩)
     ((go_at_call 120;refine(hCl _ ?_).mono ?_;exact HDR.out;rintro e w5 ⟨rfl,hb5⟩;have d7:=(hb5.cell (p:=⟨b,o+7,none⟩) hlt).trans c7;have d5:=(hb5.cell (p:=⟨b,o+5,none⟩) hlt).trans c5))|fail
    go_wp2_with fail
    go_ret
    first
     |exact⟨retb E0.out.symm,hb5⟩
     |exact⟨retb E0.out.symm,Below.refl _ _⟩
   |false=>
    simp only [q3]at E0
    simp only [Bool.true_or,Bool.or_true,Bool.false_or,Bool.or_false,Bool.and_true,Bool.and_false,Bool.true_and,Bool.false_and]at E0
    go_enter Tryz.func85,Tryz.ntmps85
    go_wp2_with fail
    first|go_region_held3 (fun w'=>w'.cell? ⟨b,o+7,none⟩=some (.string nm)/\w'.cell? ⟨b,o+5,none⟩=some (.int .i64 ln)) (exact⟨by assumption,by assumption⟩)
     ((go_at_call 120;refine(hCl _ ?_).mono ?_;exact HDR.out;rintro e w5 ⟨rfl,hb5⟩;have d7:=(hb5.cell (p:=⟨b,o+7,none⟩) hlt).trans c7;have d5:=(hb5.cell (p:=⟨b,o+5,none⟩) hlt).trans c5))|fail
    go_wp2_with fail
    go_ret
    first
     |exact⟨retb E0.out.symm,hb5⟩
     |exact⟨retb E0.out.symm,Below.refl _ _⟩
 |false=>
  simp only [t1]at E0
  simp only [Bool.true_or,Bool.or_true,Bool.false_or,Bool.or_false,Bool.and_true,Bool.and_false,Bool.true_and,Bool.false_and]at E0
  go_enter Tryz.func85,Tryz.ntmps85
  go_wp2_with fail
  have HCL:=Lib.hid hCl
  clear hCl c0 c3 r2 hrn hn1
  refine wp_region_held_drew (S:=fun w'=>w'.cell? ⟨b,o+7,none⟩=some (.string nm)/\w'.cell? ⟨b,o+5,none⟩=some (.int .i64 ln)) (by kernel_rfl) ⟨by simpa using c7,by simpa using c5⟩ (fun hHeld=>?_)
  refine wpAnyH_take (i:=0) (v:=?v0) rfl (by kernel_rfl) (by kernel_rfl) (by kernel_rfl) (fun _ _ _ h=>h) (Or.inl ⟨by rfl,?y0⟩) hHeld ?_
  case y0=>(intro w hSw;(try dsimp only at hSw);go_simp;try with_reducible rfl)
  simp only [Act.put,List.setIfInBounds_toArray,List.set_cons_zero,List.set_cons_succ,List.getElem_toArray,List.getElem_cons_zero,List.getElem_cons_succ]
  refine wpAnyH_take (i:=1) (v:=?v1) rfl (by kernel_rfl) (by kernel_rfl) (by kernel_rfl) (fun _ _ _ h=>h) (Or.inl ⟨by rfl,?y1⟩) hHeld ?_
  case y1=>(intro w hSw;(try dsimp only at hSw);go_simp;try with_reducible rfl)
  simp only [Act.put,List.setIfInBounds_toArray,List.set_cons_zero,List.set_cons_succ,List.getElem_toArray,List.getElem_cons_zero,List.getElem_cons_succ]
  refine wpAnyH_take (i:=2) (v:=?v2) rfl (by kernel_rfl) (by kernel_rfl) (by kernel_rfl) (fun _ _ _ h=>h) (Or.inl ⟨by rfl,?y2⟩) hHeld ?_
  case y2=>(intro w hSw;(try dsimp only at hSw);go_simp;try with_reducible rfl)
  simp only [Act.put,List.setIfInBounds_toArray,List.set_cons_zero,List.set_cons_succ,List.getElem_toArray,List.getElem_cons_zero,List.getElem_cons_succ]
  refine wpAnyH_take (i:=3) (v:=?v3) rfl (by kernel_rfl) (by kernel_rfl) (by kernel_rfl) (fun _ _ _ h=>h) (Or.inl ⟨by rfl,?y3⟩) hHeld ?_
  case y3=>(intro w hSw;(try dsimp only at hSw);go_simp;try with_reducible rfl)
  simp only [Act.put,List.setIfInBounds_toArray,List.set_cons_zero,List.set_cons_succ,List.getElem_toArray,List.getElem_cons_zero,List.getElem_cons_succ]
  refine wpAnyH_take (i:=4) (v:=?v4) rfl (by kernel_rfl) (by kernel_rfl) (by kernel_rfl) (fun _ _ _ h=>h) (Or.inl ⟨by rfl,?y4⟩) hHeld ?_
  case y4=>(intro w hSw;(try dsimp only at hSw);go_simp;try with_reducible rfl)
  simp only [Act.put,List.setIfInBounds_toArray,List.set_cons_zero,List.set_cons_succ,List.getElem_toArray,List.getElem_cons_zero,List.getElem_cons_succ]
  refine wpAnyH_take (i:=5) (v:=?v5) rfl (by kernel_rfl) (by kernel_rfl) (by kernel_rfl) (fun _ _ _ h=>h) (Or.inl ⟨by rfl,?y5⟩) hHeld ?_
  case y5=>(intro w hSw;(try dsimp only at hSw);go_simp;try with_reducible rfl)
  simp only [Act.put,List.setIfInBounds_toArray,List.set_cons_zero,List.set_cons_succ,List.getElem_toArray,List.getElem_cons_zero,List.getElem_cons_succ]
  refine wpAnyH_take (i:=6) (v:=undef) rfl (by kernel_rfl) (by kernel_rfl) (by kernel_rfl) (fun _ _ _ h=>h) (Or.inr ⟨by kernel_rfl,rfl⟩) hHeld ?_
  simp only [Act.put,List.setIfInBounds_toArray,List.set_cons_zero,List.set_cons_succ,List.getElem_toArray,List.getElem_cons_zero,List.getElem_cons_succ]
  refine wpAnyH_take (i:=7) (v:=undef) rfl (by kernel_rfl) (by kernel_rfl) (by kernel_rfl) (fun _ _ _ h=>h) (Or.inr ⟨by kernel_rfl,rfl⟩) hHeld ?_
  simp only [Act.put,List.setIfInBounds_toArray,List.set_cons_zero,List.set_cons_succ,List.getElem_toArray,List.getElem_cons_zero,List.getElem_cons_succ]
  refine wpAnyH_take (i:=8) (v:=undef) rfl (by kernel_rfl) (by kernel_rfl) (by kernel_rfl) (fun _ _ _ h=>h) (Or.inr ⟨by kernel_rfl,rfl⟩) hHeld ?_
  simp only [Act.put,List.setIfInBounds_toArray,List.set_cons_zero,List.set_cons_succ,List.getElem_toArray,List.getElem_cons_zero,List.getElem_cons_succ]
  refine wpAnyH_take (i:=9) (v:=undef) rfl (by kernel_rfl) (by kernel_rfl) (by kernel_rfl) (fun _ _ _ h=>h) (Or.inr ⟨by kernel_rfl,rfl⟩) hHeld ?_
  simp only [Act.put,List.setIfInBounds_toArray,List.set_cons_zero,List.set_cons_succ,List.getElem_toArray,List.getElem_cons_zero,List.getElem_cons_succ]
  refine wpAnyH_take (i:=10) (v:=undef) rfl (by kernel_rfl) (by kernel_rfl) (by kernel_rfl) (fun _ _ _ h=>h) (Or.inr ⟨by kernel_rfl,rfl⟩) hHeld ?_
  simp only [Act.put,List.setIfInBounds_toArray,List.set_cons_zero,List.set_cons_succ,List.getElem_toArray,List.getElem_cons_zero,List.getElem_cons_succ]
  refine wpAnyH_take (i:=11) (v:=?v11) rfl (by kernel_rfl) (by kernel_rfl) (by kernel_rfl) (fun _ _ _ h=>h) (Or.inl ⟨by rfl,?y11⟩) hHeld ?_
  case y11=>(intro w hSw;(try dsimp only at hSw);go_simp;try with_reducible rfl)
  simp only [Act.put,List.setIfInBounds_toArray,List.set_cons_zero,List.set_cons_succ,List.getElem_toArray,List.getElem_cons_zero,List.getElem_cons_succ]
  refine wpAnyH_take (i:=12) (v:=?v12) rfl (by kernel_rfl) (by kernel_rfl) (by kernel_rfl) (fun _ _ _ h=>h) (Or.inl ⟨by rfl,?y12⟩) hHeld ?_
  case y12=>(intro w hSw;(try dsimp only at hSw);go_simp;try with_reducible rfl)
  simp only [Act.put,List.setIfInBounds_toArray,List.set_cons_zero,List.set_cons_succ,List.getElem_toArray,List.getElem_cons_zero,List.getElem_cons_succ]
  refine wpAnyH_take (i:=13) (v:=?v13) rfl (by kernel_rfl) (by kernel_rfl) (by kernel_rfl) (fun _ _ _ h=>h) (Or.inl ⟨by rfl,?y13⟩) hHeld ?_
  case y13=>(intro w hSw;(try dsimp only at hSw);go_simp;try with_reducible rfl)
  simp only [Act.put,List.setIfInBounds_toArray,List.set_cons_zero,List.set_cons_succ,List.getElem_toArray,List.getElem_cons_zero,List.getElem_cons_succ]
  refine wpAnyH_take (i:=14) (v:=?v14) rfl (by kernel_rfl) (by kernel_rfl) (by kernel_rfl) (fun _ _ _ h=>h) (Or.inl ⟨by rfl,?y14⟩) hHeld ?_
  case y14=>(intro w hSw;(try dsimp only at hSw);go_simp;try with_reducible rfl)
  simp only [Act.put,List.setIfInBounds_toArray,List.set_cons_zero,List.set_cons_succ,List.getElem_toArray,List.getElem_cons_zero,List.getElem_cons_succ]
  refine wpAnyH_take (i:=15) (v:=?v15) rfl (by kernel_rfl) (by kernel_rfl) (by kernel_rfl) (fun _ _ _ h=>h) (Or.inl ⟨by rfl,?y15⟩) hHeld ?_
  case y15=>(intro w hSw;(try dsimp only at hSw);go_simp;try with_reducible rfl)
  simp only [Act.put,List.setIfInBounds_toArray,List.set_cons_zero,List.set_cons_succ,List.getElem_toArray,List.getElem_cons_zero,List.getElem_cons_succ]
  refine wpAnyH_take (i:=16) (v:=?v16) rfl (by kernel_rfl) (by kernel_rfl) (by kernel_rfl) (fun _ _ _ h=>h) (Or.inl ⟨by rfl,?y16⟩) hHeld ?_
  case y16=>(intro w hSw;(try dsimp only at hSw);go_simp;try with_reducible rfl)
  simp only [Act.put,List.setIfInBounds_toArray,List.set_cons_zero,List.set_cons_succ,List.getElem_toArray,List.getElem_cons_zero,List.getElem_cons_succ]
  refine wpAnyH_take (i:=17) (v:=?v17) rfl (by kernel_rfl) (by kernel_rfl) (by kernel_rfl) (fun _ _ _ h=>h) (Or.inl ⟨by rfl,?y17⟩) hHeld ?_
  case y17=>(intro w hSw;(try dsimp only at hSw);go_simp;try with_reducible rfl)
  simp only [Act.put,List.setIfInBounds_toArray,List.set_cons_zero,List.set_cons_succ,List.getElem_toArray,List.getElem_cons_zero,List.getElem_cons_succ]
  refine wpAnyH_take (i:=18) (v:=?v18) rfl (by kernel_rfl) (by kernel_rfl) (by kernel_rfl) (fun _ _ _ h=>h) (Or.inl ⟨by rfl,?y18⟩) hHeld ?_
  case y18=>(intro w hSw;(try dsimp only at hSw);go_simp;try with_reducible rfl)
  simp only [Act.put,List.setIfInBounds_toArray,List.set_cons_zero,List.set_cons_succ,List.getElem_toArray,List.getElem_cons_zero,List.getElem_cons_succ]
  refine wpAnyH_take (i:=19) (v:=?v19) rfl (by kernel_rfl) (by kernel_rfl) (by kernel_rfl) (fun _ _ _ h=>h) (Or.inl ⟨by rfl,?y19⟩) hHeld ?_
  case y19=>(intro w hSw;(try dsimp only at hSw);go_simp;try with_reducible rfl)
  simp only [Act.put,List.setIfInBounds_toArray,List.set_cons_zero,List.set_cons_succ,List.getElem_toArray,List.getElem_cons_zero,List.getElem_cons_succ]
  refine wpAnyH_take (i:=20) (v:=?v20) rfl (by kernel_rfl) (by kernel_rfl) (by kernel_rfl) (fun _ _ _ h=>h) (Or.inl ⟨by rfl,?y20⟩) hHeld ?_
  case y20=>(intro w hSw;(try dsimp only at hSw);go_simp;try with_reducible rfl)
  simp only [Act.put,List.setIfInBounds_toArray,List.set_cons_zero,List.set_cons_succ,List.getElem_toArray,List.getElem_cons_zero,List.getElem_cons_succ]
  refine wpAnyH_ready (rs:=[21]) (by kernel_rfl) (by simp) ?_
  refine AllReadyH.cons rfl (fun K hK=>?_) AllReadyH.nil
  simp only [List.getElem_toArray,List.getElem_cons_zero,List.getElem_cons_succ]
  go_simp
  refine(HCL.out _ HDR.out).mono ?_
  rintro e w5 ⟨rfl,hb5⟩
  go_wp2_with fail
  refine hK.out _ _ ⟨(hb5.cell (p:=⟨b,o+7,none⟩) hlt).trans c7,(hb5.cell (p:=⟨b,o+5,none⟩) hlt).trans c5⟩ (fun hHeld2=>?_)
  clear hK K hHeld
  try simp only [Act.put,List.setIfInBounds_toArray,List.set_cons_zero,List.set_cons_succ,List.getElem_toArray,List.getElem_cons_zero,List.getElem_cons_succ]
  refine wpAnyH_take (i:=22) (v:=?v22) rfl (by kernel_rfl) (by kernel_rfl) (by kernel_rfl) (fun _ _ _ h=>h) (Or.inl ⟨by rfl,?y22⟩) hHeld2 ?_
  case y22=>(intro w hSw;(try dsimp only at hSw);go_simp;try with_reducible rfl)
  simp only [Act.put,List.setIfInBounds_toArray,List.set_cons_zero,List.set_cons_succ,List.getElem_toArray,List.getElem_cons_zero,List.getElem_cons_succ]
  refine wpAnyH_take (i:=23) (v:=?v23) rfl (by kernel_rfl) (by kernel_rfl) (by kernel_rfl) (fun _ _ _ h=>h) (Or.inl ⟨by rfl,?y23⟩) hHeld2 ?_
  case y23=>(intro w hSw;(try dsimp only at hSw);go_simp;try with_reducible rfl)
  simp only [Act.put,List.setIfInBounds_toArray,List.set_cons_zero,List.set_cons_succ,List.getElem_toArray,List.getElem_cons_zero,List.getElem_cons_succ]
  refine wpAnyH_take (i:=24) (v:=?v24) rfl (by kernel_rfl) (by kernel_rfl) (by kernel_rfl) (fun _ _ _ h=>h) (Or.inl ⟨by rfl,?y24⟩) hHeld2 ?_
  case y24=>(intro w hSw;(try dsimp only at hSw);go_simp;try with_reducible rfl)
  simp only [Act.put,List.setIfInBounds_toArray,List.set_cons_zero,List.set_cons_succ,List.getElem_toArray,List.getElem_cons_zero,List.getElem_cons_succ]
  refine wpAnyH_done (by kernel_rfl) ?_ _
  go_wp2_with fail
  go_ret
  exact⟨retb E0.out.symm,hb5⟩
theorem named_rest (b o:Nat) (x:RIns) (so co go:zzA) (sc cc gc:Nat) (w:World) (hsp:SpaceAt w) (hx:IBox w b o x so co go sc cc gc) (hs:x.name.size<=140737488355328) (h13: ¬x.op=13) (h14: ¬x.op=14) (h15: ¬x.op=15):
  Calls Tryz.prog 85 #[.pointer (some ⟨b,o,none⟩)] w fun e w'=>e= .returned (.bool (namedB x))/\Below w.heap.size w w':=by
 have c0:=hx.c0;have c3:=hx.c3;have c5:=hx.c5;have c7:=hx.c7
 have r2:=hx.rsrc
 have hlt:=hx.lt
 have hrn:=hx.rn
 have hn1:I64 (x.src.length:Int):=by unfold I64;omega
 have E0:Hid (namedB x=true):=Lib.hid (by unfold namedB;rw [if_neg h13,if_neg h14,if_neg h15])
 have t13:(x.op==13)=false:=beq_eq_false_iff_ne.2 h13
 have t14:(x.op==14)=false:=beq_eq_false_iff_ne.2 h14
 have t15:(x.op==15)=false:=beq_eq_false_iff_ne.2 h15
 clear h13 h14 h15 hx hsp
 go_enter Tryz.func85,Tryz.ntmps85
 go_wp2_with fail
 go_ret
 exact⟨retb E0.out.symm,Below.refl _ _⟩
theorem named_any (b o:Nat) (x:RIns) (so co go:zzA) (sc cc gc:Nat) (w:World) (hsp:SpaceAt w) (hx:IBox w b o x so co go sc cc gc) (hs:x.name.size<=140737488355328):
  Calls Tryz.prog 85 #[.pointer (some ⟨b,o,none⟩)] w fun e w'=>e= .returned (.bool (namedB x))/\Below w.heap.size w w':=by
 by_cases h13:x.op=13
 ·exact named_13 b o x so co go sc cc gc w hsp hx hs h13
 by_cases h14:x.op=14
 ·exact named_14 b o x so co go sc cc gc w hsp hx hs h14
 by_cases h15:x.op=15
 ·exact named_15 b o x so co go sc cc gc w hsp hx hs h15
 exact named_rest b o x so co go sc cc gc w hsp hx hs h13 h14 h15
def opAt (code:List RIns) (i:Int):Int:=((code[i.toNat]?).map RIns.op).getD 0
def targetsB (code:List RIns) (i:Nat) (x:RIns) (h:Nat):Bool:=
 if x.op=39\/x.op=40 then wi x.to 0 ((code.length:Int)-1)&&(opAt code x.to==37)
 else x.cases.all (fun c=>wi c.to ((i:Int)+1) ((code.length:Int)-1))&&(!hasB h 64||wi x.to ((i:Int)+1) ((code.length:Int)-1))
theorem targets_jump (B:Nat) (u:RUnit) (lo fo go:zzA) (lc fc gc cc:Nat) (bc oc:Nat) (i:Nat) (h l' h':Int) (so co' go':zzA) (sc cc' gc':Nat) (w:World) (hu:UBox w B u lo fo go (some ⟨bc,oc,none⟩) lc fc gc cc) (hcode:SlAt w 10 (InsR w) (some ⟨bc,oc,none⟩) u.code) (hl:u.code.length<=9223372036854775807) (hi:i<u.code.length)
  (x:RIns) (hx:IBox w bc (oc+i*10) x so co' go' sc cc' gc') (hop:x.op=39\/x.op=40) (hn:Nat):
  Calls Tryz.prog 87 #[.pointer (some ⟨B,0,none⟩),.int .i64 i,.agg #[.int .i64 h,.int .i64 l',.int .i64 h']] w fun e w'=>e= .returned (.bool (targetsB u.code i x hn))/\Below w.heap.size w w':=by
 have hbe:Below w.heap.size w (w.alloc (.cells #[.int .i64 h,.int .i64 l',.int .i64 h'] 170)):=zzE _ _
 have b5:=(hu.below hbe).c5
 have hxb:=hx.below hbe
 have c0:=hxb.c0;have c4:=hxb.c4
 have hBl:=(hu.below hbe).lt
 have hbl:=hxb.lt
 have hw1:=zzV u.code.length (by omega)
 have hwc:=fun wx=>within_any x.to 0 ((u.code.length:Int)-1) wx
 have HBE:=Lib.hid hbe
 have E0:Hid (targetsB u.code i x hn=(wi x.to 0 ((u.code.length:Int)-1)&&(opAt u.code x.to==37))):=Lib.hid (by unfold targetsB;rw [if_pos hop])
 have HCO:=Lib.hid hcode
 clear hu hx hxb hcode
 generalize hxo:x.op=xo at *
 have hE: ∀j,j<u.code.length->True:=fun _ _=>trivial
 clear hE hxo
 by_cases hin:0<=x.to/\x.to<=(u.code.length:Int)-1
 ·have hwi:=wi_yes hin.1 hin.2
  rw [hwi]at hwc
  obtain⟨m,hm⟩: ∃m:Nat,x.to=(m:Int):=⟨x.to.toNat,by omega⟩
  have hml:m<u.code.length:=by omega
  obtain⟨b2,o2,so2,co2,go2,sc2,cc2,gc2,hao,hmx⟩:=ibox_of HCO.out hml
  obtain⟨rfl,rfl⟩:bc=b2/\oc=o2:=by injection hao with h;injection h with h1 h2;exact⟨h1,h2⟩
  have d0:=(hmx.below HBE.out).c0
  have hop2:opAt u.code x.to=(u.code[m]).op:=by unfold opAt;rw [hm,Int.toNat_natCast,List.getElem?_eq_getElem hml];rfl
  rw [hwi,hop2,Bool.true_and]at E0
  rw [hm]at hwc c4
  generalize(u.code[m]).op=oo at *
  have E1:=Lib.hid E0.out
  clear hmx hao hin hwi hop2 hm HCO E0
  generalize targetsB u.code i x hn=r at *
  cases hq:(oo==37)
  all_goals
   rw [hq]at E1
   rcases hop with rfl|rfl
   all_goals
    go_enter Tryz.func87,Tryz.ntmps87
    go_wp2_with fail
    go_quiet (fail)
    have HQ:=Lib.hid (below_drewN HBE.out nq)
    have b5':((w.alloc (.cells #[.int .i64 h,.int .i64 l',.int .i64 h'] 170)).drewN nq).cell? ⟨B,5,none⟩=some (.slice (some ⟨bc,oc,none⟩) u.code.length cc):=b5
    have c0':((w.alloc (.cells #[.int .i64 h,.int .i64 l',.int .i64 h'] 170)).drewN nq).cell? ⟨bc,oc+i*10,none⟩=_:=c0
    have c4':((w.alloc (.cells #[.int .i64 h,.int .i64 l',.int .i64 h'] 170)).drewN nq).cell? ⟨bc,oc+i*10+4,none⟩=_:=c4
    have d0':((w.alloc (.cells #[.int .i64 h,.int .i64 l',.int .i64 h'] 170)).drewN nq).cell? ⟨bc,oc+m*10,none⟩=_:=d0
    clear b5 c0 c4 d0 HBE
    generalize(w.alloc (.cells #[.int .i64 h,.int .i64 l',.int .i64 h'] 170)).drewN nq=W1 at *
    go_wp2_with fail
    go_quiet ((go_at_call 116;exact Calls.quiet_of_same ((hwc _).mono fun _ _ ⟨a,b⟩=>⟨a,b.symm⟩)))
    go_wp2_with fail
    go_ret
    exact⟨retb E1.out.symm,below_drewN HQ.out _⟩
 ·have hwi:=wi_no hin
  rw [hwi]at hwc
  rw [hwi,Bool.false_and]at E0
  have E1:=Lib.hid E0.out
  clear hin hwi HCO E0
  generalize targetsB u.code i x hn=r at *
  rcases hop with rfl|rfl
  all_goals
   go_enter Tryz.func87,Tryz.ntmps87
   go_wp2_with fail
   go_quiet (fail)
   have HQ:=Lib.hid (below_drewN HBE.out nq)
   have b5':((w.alloc (.cells #[.int .i64 h,.int .i64 l',.int .i64 h'] 170)).drewN nq).cell? ⟨B,5,none⟩=some (.slice (some ⟨bc,oc,none⟩) u.code.length cc):=b5
   have c0':((w.alloc (.cells #[.int .i64 h,.int .i64 l',.int .i64 h'] 170)).drewN nq).cell? ⟨bc,oc+i*10,none⟩=_:=c0
   have c4':((w.alloc (.cells #[.int .i64 h,.int .i64 l',.int .i64 h'] 170)).drewN nq).cell? ⟨bc,oc+i*10+4,none⟩=_:=c4
   clear b5 c0 c4 HBE
   generalize(w.alloc (.cells #[.int .i64 h,.int .i64 l',.int .i64 h'] 170)).drewN nq=W1 at *
   go_wp2_with fail
   go_quiet ((go_at_call 116;exact Calls.quiet_of_same ((hwc _).mono fun _ _ ⟨a,b⟩=>⟨a,b.symm⟩)))
   go_wp2_with fail
   go_ret
   exact⟨retb E1.out.symm,below_drewN HQ.out _⟩
theorem targets_rest (B:Nat) (u:RUnit) (lo fo go:zzA) (lc fc gc cc:Nat) (bc oc:Nat) (i:Nat) (hn:Nat) (l' h':Int) (so co' go':zzA) (sc cc' gc':Nat) (w:World) (hu:UBox w B u lo fo go (some ⟨bc,oc,none⟩) lc fc gc cc) (hl:u.code.length<=9223372036854775807) (hi:i<u.code.length)
  (x:RIns) (hx:IBox w bc (oc+i*10) x so co' go' sc cc' gc') (hop: ¬(x.op=39\/x.op=40)) (hh:hn<1000):
  Calls Tryz.prog 87 #[.pointer (some ⟨B,0,none⟩),.int .i64 i,.agg #[.int .i64 hn,.int .i64 l',.int .i64 h']] w fun e w'=>e= .returned (.bool (targetsB u.code i x hn))/\Below w.heap.size w w':=by
 have hbe:Below w.heap.size w (w.alloc (.cells #[.int .i64 hn,.int .i64 l',.int .i64 h'] 170)):=zzE _ _
 have hbr:=heap_alloc_new w (.cells #[.int .i64 hn,.int .i64 l',.int .i64 h'] 170)
 have b5:=(hu.below hbe).c5
 have hxb:=hx.below hbe
 have c0:=hxb.c0
 have hBl:=(hu.below hbe).lt
 have hbl:=hxb.lt
 have rc:=hxb.rcases
 have t39:(x.op==39)=false:=beq_eq_false_iff_ne.2 (fun h=>hop (.inl h))
 have t40:(x.op==40)=false:=beq_eq_false_iff_ne.2 (fun h=>hop (.inr h))
 have hw1:=zzV u.code.length (by omega)
 have hwc:=fun n wx=>within_any n ((i:Int)+1) ((u.code.length:Int)-1) wx
 refine zzK3 hbe hbr hxb fun HBE HBR HX=>?_
 have ha:bits .and .i64 (hn:Int) 64=((hn&&&64:Nat):Int):=and_i64 hn 64 (by omega) (by omega)
 have hab:((((hn&&&64:Nat):Int))==0)= !hasB hn 64:=by
  unfold hasB
  by_cases c:hn&&&64=0
  ·rw [c];rfl
  ·rw [decide_eq_true c];show _=false;rw [beq_eq_false_iff_ne];omega
 have E0:Hid (targetsB u.code i x hn=(x.cases.all (fun c=>wi c.to ((i:Int)+1) ((u.code.length:Int)-1))&&(!hasB hn 64||wi x.to ((i:Int)+1) ((u.code.length:Int)-1)))):=Lib.hid (by unfold targetsB;rw [if_neg hop])
 have HAB:=Lib.hid hab
 have HI:Hid (x.cases.all (fun c=>wi c.to ((i:Int)+1) ((u.code.length:Int)-1))=(x.cases.drop 0).all (fun c=>wi c.to ((i:Int)+1) ((u.code.length:Int)-1))):=Lib.hid rfl
 clear hu hx hxb hop hab hbr hbe
 generalize targetsB u.code i x hn=r at *
 go_enter Tryz.func87,Tryz.ntmps87
 go_wp2_with fail
 go_quiet (fail)
 have HQ:=Lib.hid (below_drewN HBE.out nq)
 have HQ2:Hid (Below (w.alloc (.cells #[.int .i64 hn,.int .i64 l',.int .i64 h'] 170)).heap.size (w.alloc (.cells #[.int .i64 hn,.int .i64 l',.int .i64 h'] 170)) ((w.alloc (.cells #[.int .i64 hn,.int .i64 l',.int .i64 h'] 170)).drewN nq)):=Lib.hid (below_drewN (Below.refl _ _) nq)
 have HX1:=Lib.hid (HX.out.below HQ2.out)
 have HR1:Hid (((w.alloc (.cells #[.int .i64 hn,.int .i64 l',.int .i64 h'] 170)).drewN nq).heap[w.heap.size]?=some (.cells #[.int .i64 hn,.int .i64 l',.int .i64 h'] 170 (0,0))):=Lib.hid HBR.out
 clear b5 c0 HBE HQ2 HX HBR hBl hbl
 generalize(w.alloc (.cells #[.int .i64 hn,.int .i64 l',.int .i64 h'] 170)).drewN nq=W1 at *
 have c0:=HX1.out.c0;have c8:=HX1.out.c8
 have hwi2:IntKind.i64.wrap ((i:Int)+1)=(i:Int)+1:=by rw [IntKind.wrap_i64];omega
 go_wp2_with fail
 go_loopw [55] (fun j wr=> ∃k:Nat,k<=x.cases.length/\j= .int .i64 k/\Hid (x.cases.all (fun c=>wi c.to ((i:Int)+1) ((u.code.length:Int)-1))=(x.cases.drop k).all (fun c=>wi c.to ((i:Int)+1) ((u.code.length:Int)-1)))/\Below W1.heap.size W1 wr) (fun j _=>x.cases.length-(intOf j).toNat)
 case atStart=>exact⟨0,Nat.zero_le _,rfl,HI,Below.refl _ _⟩
 case round=>
  obtain⟨k,hk,rfl,HK,hBw⟩:=hrel
  rename World=>wr
  by_cases hlt:k<x.cases.length
  ·obtain⟨b1,off1,hco,hb1,q0,q1,rl,rt⟩:=(HX1.out.below hBw).cases.case hlt
   subst hco
   have HST:Hid ((x.cases.drop k).all (fun c=>wi c.to ((i:Int)+1) ((u.code.length:Int)-1))=(wi x.cases[k].to ((i:Int)+1) ((u.code.length:Int)-1)&&(x.cases.drop (k+1)).all (fun c=>wi c.to ((i:Int)+1) ((u.code.length:Int)-1)))):=Lib.hid (by rw [List.drop_eq_getElem_cons hlt,List.all_cons])
   have hwc1:=fun wx=>hwc x.cases[k].to wx
   generalize wi x.cases[k].to ((i:Int)+1) ((u.code.length:Int)-1)=q at *
   generalize x.cases[k].to=ct at *
   generalize x.cases[k].lit=cl at *
   have HBA:Hid (Below W1.heap.size W1 (wr.alloc (.cells #[.int .i64 cl,.int .i64 ct] 124))):=Lib.hid (hBw.alloc hBw.size _)
   cases q with
   |true=>
    have HK2:Hid (x.cases.all (fun c=>wi c.to ((i:Int)+1) ((u.code.length:Int)-1))=(x.cases.drop (k+1)).all (fun c=>wi c.to ((i:Int)+1) ((u.code.length:Int)-1))):=Lib.hid (by rw [HK.out,HST.out,Bool.true_and])
    go_wp2_with (go_at_call 116;refine(hwc1 _).mono ?_;rintro e w1 ⟨rfl,rfl⟩)
    go_roundw
    case rel=>exact⟨k+1,by omega,by go_num,HK2,HBA.out⟩
    case measure=>simp [intOf];omega
   |false=>
    have E:Hid (r=false):=Lib.hid (by rw [E0.out,HK.out,HST.out];rfl)
    go_wp2_with (go_at_call 116;refine(hwc1 _).mono ?_;rintro e w1 ⟨rfl,rfl⟩)
    go_ret
    exact⟨retb E.out.symm,HQ.out.trans (HBA.out.mono HQ.out.size)⟩
  ·have EK:Hid (r=(!hasB hn 64||wi x.to ((i:Int)+1) ((u.code.length:Int)-1))):=Lib.hid (by rw [E0.out,HK.out,List.drop_eq_nil_of_le (by omega)];rfl)
   have hr:=(hBw.block w.heap.size (lt_of_row HR1.out)).trans HR1.out
   have n0:wr.cell? ⟨w.heap.size,0,none⟩=some (.int .i64 hn):=by rw [cell_of_row _ _ _ _ _ _ hr];rfl
   have c4:=(HX1.out.below hBw).c4
   have hwc1:=fun wx=>hwc x.to wx
   have hab:=HAB.out
   generalize wi x.to ((i:Int)+1) ((u.code.length:Int)-1)=q at *
   generalize hasB hn 64=hb at *
   clear hr
   generalize hn&&&64=z at *
   cases hb with
   |false=>
    have E:Hid (r=true):=Lib.hid (by rw [EK.out];rfl)
    go_wp2_with fail
    go_ret
    exact⟨retb E.out.symm,HQ.out.trans (hBw.mono HQ.out.size)⟩
   |true=>
    have E:Hid (r=q):=Lib.hid (by rw [EK.out];rfl)
    go_wp2_with (go_at_call 116;refine(hwc1 _).mono ?_;rintro e w1 ⟨rfl,rfl⟩)
    go_ret
    exact⟨retb E.out.symm,HQ.out.trans (hBw.mono HQ.out.size)⟩
theorem targets_any (B:Nat) (u:RUnit) (lo fo go:zzA) (lc fc gc cc:Nat) (bc oc:Nat) (i:Nat) (hn:Nat) (l' h':Int) (so co' go':zzA) (sc cc' gc':Nat) (w:World) (hu:UBox w B u lo fo go (some ⟨bc,oc,none⟩) lc fc gc cc) (hcode:SlAt w 10 (InsR w) (some ⟨bc,oc,none⟩) u.code) (hl:u.code.length<=9223372036854775807) (hi:i<u.code.length)
  (x:RIns) (hx:IBox w bc (oc+i*10) x so co' go' sc cc' gc') (hh:hn<1000):
  Calls Tryz.prog 87 #[.pointer (some ⟨B,0,none⟩),.int .i64 i,.agg #[.int .i64 hn,.int .i64 l',.int .i64 h']] w fun e w'=>e= .returned (.bool (targetsB u.code i x hn))/\Below w.heap.size w w':=by
 by_cases hop:x.op=39\/x.op=40
 ·exact targets_jump B u lo fo go lc fc gc cc bc oc i hn l' h' so co' go' sc cc' gc' w hu hcode hl hi x hx hop hn
 ·exact targets_rest B u lo fo go lc fc gc cc bc oc i hn l' h' so co' go' sc cc' gc' w hu hl hi x hx hop hh
theorem rows_datum:(Rows.laid_stagehand_code_rows:DataW Unit)= .agg (rowT.map fun r=>.agg ([r.1,r.2.1,r.2.2].map fun z=>.lit (.int .i64 z))):=rfl
theorem rowsName:Tryz.prog.globalNamed "stagehand/code.rows" =some 0:=by kernel_rfl
theorem rowsType:(Tryz.prog.globals[0]?).map (·.type)=some 225:=by kernel_rfl
theorem rowCells:Tryz.prog.cellsOf 170=3:=by kernel_rfl
theorem rowInt:Tryz.prog.cellsOf 3=1:=by kernel_rfl
theorem rows_of_reads {W:World} (h:Lib.VarReads Tryz.prog W "stagehand/code.rows" Rows.laid_stagehand_code_rows):RowsAt W:=by
 obtain⟨g,t,cs,fuel,p,hg,ht,hv,hd⟩:=h
 obtain rfl:=Option.some.inj (rowsName.symm.trans hg)
 obtain rfl:=Option.some.inj (rowsType.symm.trans ht)
 rw [rows_datum]at hd
 have hlt:0<W.heap.size:=by
  unfold World.var? at hv
  rw [hg]at hv
  simp only [Option.bind_some]at hv
  split at hv
  ·rename_i h;exact(Array.getElem?_eq_some_iff.1 h).1
  ·cases hv
 refine⟨hlt,fun k hk=>?_⟩
 obtain⟨f',d,q,h1,h2⟩:=Lib.array_elem Tryz.underlying225 hd k hk
 rw [List.getElem?_map,List.getElem?_eq_getElem (by exact hk)]at h1
 obtain rfl:=Option.some.inj h1
 have h3:=Lib.ints_of_struct Tryz.underlying170 (fun i f hf=>by
  have hi:=(Array.getElem?_eq_some_iff.1 hf).1
  have hi:i<3:=hi
  rcases(show i=0\/i=1\/i=2 by omega)with rfl|rfl|rfl
  all_goals
   obtain rfl:=Option.some.inj hf
   exact⟨Tryz.underlying3,rfl,rowInt⟩) rowCells h2
 rw [rowCells]at h3
 have hc: ∀i,i<3->cs[k*3+i]?=([(rowT[k]'hk).1,(rowT[k]'hk).2.1,(rowT[k]'hk).2.2].map fun z=>Value.int .i64 z)[i]?:=fun i hi=>by
  have h4:((cs.toList.drop (k*3)).take 3)[i]?=([(rowT[k]'hk).1,(rowT[k]'hk).2.1,(rowT[k]'hk).2.2].map fun z=>Value.int .i64 z)[i]?:=congrArg (fun l=>l[i]?) h3
  rw [List.getElem?_take_of_lt hi,List.getElem?_drop,Array.getElem?_toList]at h4
  exact h4
 have hcell:=World.var?_cell hg hv
 exact⟨(hcell (k*3)).trans (hc 0 (by decide)),(hcell (k*3+1)).trans (hc 1 (by decide)),(hcell (k*3+2)).trans (hc 2 (by decide))⟩
theorem spaceName:Tryz.prog.globalNamed "strings.asciiSpace" =some 1:=by kernel_rfl
theorem spaceType:(Tryz.prog.globals[1]?).map (·.type)=some 300:=by kernel_rfl
theorem spaceCells:Tryz.prog.cellsOf 5=1:=by kernel_rfl
theorem spacesCells:Tryz.prog.cellsOf 300=256:=by kernel_rfl
theorem space_datum:(Rows.laid_strings_asciiSpace:DataW Unit)=Lib.tabData .u8 Lib.asciiSpaceTab:=by kernel_rfl
theorem rows_at {W:World} {l:List (String × DataW Unit)} (h:laidMet Tryz.prog l W) (hm:("stagehand/code.rows",Rows.laid_stagehand_code_rows)∈l):RowsAt W:=rows_of_reads (Lib.laidMet.reads h hm)
theorem space_at {W:World} {a:String × DataW Unit} {rest:List (String × DataW Unit)} (h:laidMet Tryz.prog (a::("strings.asciiSpace",Rows.laid_strings_asciiSpace)::rest) W):SpaceAt W:=by
 rw [space_datum]at h
 exact Lib.tabIs_of_head spaceName spaceType Tryz.underlying300 Tryz.underlying5 spaceCells spacesCells h.tail
noncomputable def laidWorld (os:Os):World:=
 let N:=(World.settled Tryz.prog os).heap.size
 let w0:=World.holding Tryz.prog os ⟨#[.cells (Lib.whiteT.map fun(z:Nat)=>Value.int .u16 (z:Int)).toArray 333,.cells #[.slice (some ⟨N,0,none⟩) 7 7,.slice none 0 0,.int .i64 2] 330],#[],[]⟩
 let put (h:Array Obj) (g:Nat) (cs:Array Value):Array Obj:=h.modify g fun
  |.cells _ t frozen=>.cells cs t frozen
  |o=>o
 let h1:=put w0.heap 1 (Lib.asciiSpaceTab.map fun z=>Value.int .u8 z).toArray
 let h2:=put h1 5 #[.pointer (some ⟨N+1,0,none⟩)]
 let h3:=put h2 0 (rowT.flatMap fun r=>[Value.int .i64 r.1,Value.int .i64 r.2.1,Value.int .i64 r.2.2]).toArray
 {w0 with heap:=h3}
end Go.Proofs.YtponljdhfoipjaaGreatDoor
