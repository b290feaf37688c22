import Derived.Test.YtepjanajflkakaaGreatDoorW07
import Derived.Test.YtepjanajflkakaaGreatDoorW08
import Derived.Test.YtepjanajflkakaaGreatDoorW09
namespace Go.Proofs.YtepjanajflkakaaGreatDoor
open Go.RowKit
set_option linter.unusedVariables false
set_option linter.unusedSimpArgs false
set_option maxRecDepth 100000
set_option maxHeartbeats 0
def zde (x:RIns) (so:Option Addr) (sc:Nat) (co:Option Addr) (cc:Nat) (go:Option Addr) (gc:Nat):List Value:=[.int .i64 x.op,.int .i64 x.dst.kind,.int .i64 x.dst.n,.slice so x.src.length sc,.int .i64 x.to,.int .i64 x.n,.int .i64 x.live,.string x.name,.slice co x.cases.length cc,.slice go x.segs.length gc]
def zjX (x:RIns):Prop:=I64 x.op/\I64 x.dst.kind/\I64 x.dst.n/\x.src.length<=maxLen/\I64 x.to/\I64 x.n/\I64 x.live/\x.name.size<=maxLen/\x.cases.length<=maxLen/\x.segs.length<=maxLen
def InsS (w:World) (lo hi:Nat) (cs:List Value) (x:RIns):Prop:=
 (∃so sc co cc go gc,cs=zde x so sc co cc go gc/\SlS w (fun _ _=>zcB) 42 2 lo hi so x.src/\SlS w (fun _ _=>zbP) 111 2 lo hi co x.cases/\SlS w (fun _ _=>zcD) 113 6 lo hi go x.segs)/\zjX x
theorem InsS.kept {w w':World} {lo hi lo' hi':Nat} {cs:List Value} {x:RIns} (h:InsS w lo hi cs x) (hk: ∀b,lo<=b->b<hi->w'.heap[b]?=w.heap[b]?) (h1:lo'<=lo) (h2:hi<=hi'):InsS w' lo' hi' cs x:=by
 obtain⟨⟨so,sc,co,cc,go,gc,e,g1,g2,g3⟩,hb⟩:=h;exact⟨⟨so,sc,co,cc,go,gc,e,g1.kept hk h1 h2 fun _ _ _ _ _ _ h=>h,g2.kept hk h1 h2 fun _ _ _ _ _ _ h=>h,g3.kept hk h1 h2 fun _ _ _ _ _ _ h=>h⟩,hb⟩
theorem InsS.at {w:World} {lo hi:Nat} {cs:List Value} {x:RIns} (h:InsS w lo hi cs x):InsR w cs x:=by
 obtain⟨⟨so,sc,co,cc,go,gc,e,g1,g2,g3⟩,hb⟩:=h;exact⟨⟨so,sc,co,cc,go,gc,e,g1.at fun _ _ _ _ h=>h,g2.at fun _ _ _ _ h=>h,g3.at fun _ _ _ _ h=>h⟩,hb⟩
def UNew (w:World) (f lo hi:Nat) (u:RUnit) (lo' fo' go' co':Option Addr):Prop:=
 ∃m1 m2 m3,lo<=m1/\m1<=m2/\m2<=m3/\m3<=hi/\SlS w (SepT w f) 116 9 lo m1 lo' u.lits/\SlS w (fun _ _=>zcl) 106 4 m1 m2 fo' u.funcs/\SlS w (fun _ _=>zbB) 70 3 m2 m3 go' u.funs/\SlS w (InsS w) 47 10 m3 hi co' u.code
theorem UNew.kept {w w':World} {f lo hi lo' hi':Nat} {u:RUnit} {lo1 fo1 go1 co1:zzA} (h:UNew w f lo hi u lo1 fo1 go1 co1) (hk: ∀b,lo<=b->b<hi->w'.heap[b]?=w.heap[b]?) (h1:lo'<=lo) (h2:hi<=hi'):UNew w' f lo' hi' u lo1 fo1 go1 co1:=by
 obtain⟨m1,m2,m3,b1,b2,b3,b4,g1,g2,g3,g4⟩:=h
 refine⟨m1,m2,m3,by omega,b2,b3,by omega,g1.kept (fun b c1 c2=>hk b c1 (by omega)) h1 (zzL _) fun a e cs t ha he hx=>hx.kept (fun b c1 c2=>hk b (by omega) (by omega)) (zzL _) (zzL _),
  g2.kept (fun b c1 c2=>hk b (by omega) (by omega)) (zzL _) (zzL _) fun _ _ _ _ _ _ h=>h,g3.kept (fun b c1 c2=>hk b (by omega) (by omega)) (zzL _) (zzL _) fun _ _ _ _ _ _ h=>h,
  g4.kept (fun b c1 c2=>hk b (by omega) c2) (zzL _) h2 fun a e cs t ha he hx=>hx.kept (fun b c1 c2=>hk b (by omega) (by omega)) (zzL _) (zzL _)⟩
theorem UNew.up {w:World} {f lo hi:Nat} {u:RUnit} {lo1 fo1 go1 co1:zzA} (h:UNew w f lo hi u lo1 fo1 go1 co1) {w0:World} {lo0 fo0 go0 co0:zzA} (h0:UP w0 u lo0 fo0 go0 co0):UP w u lo1 fo1 go1 co1:=by
 obtain⟨m1,m2,m3,b1,b2,b3,b4,g1,g2,g3,g4⟩:=h;exact⟨g1.at fun _ _ _ _ h=>⟨f,h.at⟩,g2.at fun _ _ _ _ h=>h,g3.at fun _ _ _ _ h=>h,g4.at fun _ _ _ _ h=>h.at,h0.mdlLen,h0.vsn,h0.litsLen,h0.funcsLen,h0.funsLen,h0.codeLen⟩
def LitI (f N:Nat) (w:World) (l:List Tm) (lo1:Option Addr) (k:Nat) (wr:World):Prop:=
 l= []\/ ∃g arr a e,lo1=some ⟨g,0,none⟩/\N+2<=g/\wr.heap[g]?=some (.cells arr 116 (0,0))/\Ivs (N+2) wr.heap.size (some g) k a e /\
  ∀j (h:j<l.length),∃cs:List Value,cs.length=9/\(∀i,i<9->arr[j*9+i]?=cs[i]?)/\(j<k->SepT wr f (a j) (e j) cs l[j])/\(k<=j->TmAt w f cs l[j])
theorem LitI.start {f N:Nat} {w wr:World} {l:List Tm} {lo1:zzA} {hi:Nat} (h:SlS wr (fun _ _=>TmAt w f) 116 9 (N+2) hi lo1 l):LitI f N w l lo1 0 wr:=by
 exact zz7
theorem LitI.stop {f N:Nat} {w wr:World} {l:List Tm} {lo1:zzA} (h:LitI f N w l lo1 l.length wr):SlS wr (SepT wr f) 116 9 (N+2) wr.heap.size lo1 l:=by
 exact zz8
theorem LitI.next {f N:Nat} {w wr:World} {l:List Tm} {lo1:zzA} {k:Nat} (h:LitI f N w l lo1 k wr) (hk:k<l.length): ∃g arr so c f',f=f'+1/\lo1=some ⟨g,0,none⟩/\N+2<=g/\wr.heap[g]?=some (.cells arr 116 (0,0))/\k*9+9<=arr.size /\
  (∀i,i<9->wr.cell? ⟨g,k*9+i,none⟩=(zca l[k] so c)[i]?)/\SlAt w 9 (TmAt w f') so l[k].items/\l[k].Ok:=by
 rcases h with h|⟨g,arr,a,e,e1,hb1,hg,hv,hx⟩
 ·exact zz1
 ·obtain⟨cs,k1,k2,-,k4⟩:=hx k hk
  have h8:k*9+8<arr.size:=by
   have:=k2 8 (by decide);rw [zzq4 (by omega)]at this;exact(Array.getElem?_eq_some_iff.1 this).1
  cases f with
  |zero=>exact(k4 (zzL _)).elim
  |succ f'=>
   obtain⟨⟨so,c,e2,hs⟩,ho⟩:=k4 (zzL _);exact⟨g,arr,so,c,f',rfl,e1,hb1,hg,by omega,fun i hi=>by rw [zzq0 _ _ _ _ _ _ hg,k2 i hi,e2];rfl,hs,ho⟩
theorem LitI.step {f N:Nat} {w wr w2:World} {l:List Tm} {g:Nat} {k:Nat} {so:zzA} {c:Nat} (h:LitI (f+1) N w l (some ⟨g,0,none⟩) k wr) (hk:k<l.length) (hN:N+2<=wr.heap.size) (hb:Below wr.heap.size wr w2)
  (hs:SlS w2 (SepT w2 f) 116 9 wr.heap.size w2.heap.size so l[k].items) (ho:l[k].Ok):LitI (f+1) N w l (some ⟨g,0,none⟩) (k+1) (setL g (zca l[k] so c) (k*9) w2):=by
 rcases h with h|⟨g',arr,a,e,e1,hb1,hg,hv,hx⟩
 ·exact .inl h
 ·obtain rfl:g=g':=by
   have:=zzf e1;injection this
  have hlt:=zb hg;have hg2:=(hb.block g hlt).trans hg;have hlen:(zca l[k] so c).length=9:=rfl
  have h8:k*9+9<=arr.size:=by
   obtain⟨cs,k1,k2,-,-⟩:=hx k hk;have:=k2 8 (by decide);exact zz11
  obtain⟨arr',q1,q2⟩:=zdM (zca l[k] so c) (k*9) w2 arr hg2 (by rw [hlen];exact h8);have hkk: ∀b,b≠g->(setL g (zca l[k] so c) (k*9) w2).heap[b]?=w2.heap[b]?:=fun b hbg=>zcA hbg _ _ _
  have hsz:=zfQ (g:=g) (zca l[k] so c) (k*9) w2;refine .inr ⟨g,arr',fun j=>if j<k then a j else wr.heap.size,fun j=>if j<k then e j else w2.heap.size,rfl,hb1,q1,fun j hj=>?_,fun j hj=>?_⟩
  ·exact zz9
  ·obtain⟨cs,k1,k2,k3,k4⟩:=hx j hj
   by_cases d:j=k
   ·subst d
    refine⟨zca l[j] so c,hlen,fun i hi=>?_,fun _=>?_,fun h=>by omega⟩
    ·rw [q2,if_pos ⟨Nat.le_add_right _ _,by rw [hlen];omega⟩,Nat.add_sub_cancel_left]
    ·simp only [Nat.lt_irrefl,if_false]
     refine⟨⟨so,c,rfl,hs.kept (fun b b1 b2=>hkk b (by omega)) (zzL _) (zzL _) fun a e cs t ha he hx=>hx.kept (fun b b1 b2=>hkk b (by omega)) (zzL _) (zzL _)⟩,ho⟩
   ·refine⟨cs,k1,fun i hi=>?_,fun hjk=>?_,fun hjk=>k4 (by omega)⟩
    ·rw [q2,if_neg (by rw [hlen];omega),k2 i hi]
    ·exact zz10
def InsI (M:Nat) (w:World) (l:List RIns) (co1:Option Addr) (k:Nat) (wr:World):Prop:=
 l= []\/ ∃g arr a e,co1=some ⟨g,0,none⟩/\M<=g/\wr.heap[g]?=some (.cells arr 47 (0,0))/\Ivs M wr.heap.size (some g) k a e /\
  ∀j (h:j<l.length),∃cs:List Value,cs.length=10/\(∀i,i<10->arr[j*10+i]?=cs[i]?)/\(j<k->InsS wr (a j) (e j) cs l[j])/\(k<=j->InsR w cs l[j])
theorem InsI.start {M:Nat} {w wr:World} {l:List RIns} {co1:zzA} {hi:Nat} (h:SlS wr (fun _ _=>InsR w) 47 10 M hi co1 l):InsI M w l co1 0 wr:=by
 exact zz7
theorem InsI.stop {M:Nat} {w wr:World} {l:List RIns} {co1:zzA} (h:InsI M w l co1 l.length wr):SlS wr (InsS wr) 47 10 M wr.heap.size co1 l:=by
 exact zz8
theorem InsI.next {M:Nat} {w wr:World} {l:List RIns} {co1:zzA} {k:Nat} (h:InsI M w l co1 k wr) (hk:k<l.length): ∃g arr so sc zo zc go gc,co1=some ⟨g,0,none⟩/\M<=g/\wr.heap[g]?=some (.cells arr 47 (0,0))/\k*10+10<=arr.size /\
  (∀i,i<10->wr.cell? ⟨g,k*10+i,none⟩=(zde l[k] so sc zo zc go gc)[i]?)/\SlAt w 2 zcB so l[k].src/\SlAt w 2 zbP zo l[k].cases/\SlAt w 6 zcD go l[k].segs/\zjX l[k]:=by
 rcases h with h|⟨g,arr,a,e,e1,hb1,hg,hv,hx⟩
 ·exact zz1
 ·obtain⟨cs,k1,k2,-,k4⟩:=hx k hk
  have h8:k*10+9<arr.size:=by
   have:=k2 9 (by decide);rw [zzq4 (by omega)]at this;exact(Array.getElem?_eq_some_iff.1 this).1
  obtain⟨⟨so,sc,zo,zc,go,gc,e2,g1,g2,g3⟩,ho⟩:=k4 (zzL _);exact⟨g,arr,so,sc,zo,zc,go,gc,e1,hb1,hg,by omega,fun i hi=>by rw [zzq0 _ _ _ _ _ _ hg,k2 i hi,e2];rfl,g1,g2,g3,ho⟩
theorem InsI.step {M:Nat} {w wr w2:World} {l:List RIns} {g:Nat} {k:Nat} {so zo go:zzA} {sc zc gc:Nat} (h:InsI M w l (some ⟨g,0,none⟩) k wr) (hk:k<l.length) (hN:M<=wr.heap.size) (hb:Below wr.heap.size wr w2)
  (h1:SlS w2 (fun _ _=>zcB) 42 2 wr.heap.size w2.heap.size so l[k].src) (h2:SlS w2 (fun _ _=>zbP) 111 2 wr.heap.size w2.heap.size zo l[k].cases) (h3:SlS w2 (fun _ _=>zcD) 113 6 wr.heap.size w2.heap.size go l[k].segs):
  InsI M w l (some ⟨g,0,none⟩) (k+1) (((w2.setCell ⟨g,k*10+3,none⟩ (.slice so l[k].src.length sc)).setCell ⟨g,k*10+8,none⟩ (.slice zo l[k].cases.length zc)).setCell ⟨g,k*10+9,none⟩ (.slice go l[k].segs.length gc)):=by
 rcases h with h|⟨g',arr,a,e,e1,hb1,hg,hv,hx⟩
 ·exact .inl h
 ·obtain rfl:g=g':=by
   have:=zzf e1;injection this
  have hlt:=zb hg;have hg2:=(hb.block g hlt).trans hg
  have h8:k*10+10<=arr.size:=by
   obtain⟨cs,k1,k2,-,-⟩:=hx k hk;have:=k2 9 (by decide);exact zz11
  have q1:=zzS _ _ (k*10+9) _ _ (.slice go l[k].segs.length gc) (zzS _ _ (k*10+8) _ _ (.slice zo l[k].cases.length zc) (zzS _ _ (k*10+3) _ _ (.slice so l[k].src.length sc) hg2))
  have hkk: ∀b,b≠g->(((w2.setCell ⟨g,k*10+3,none⟩ (.slice so l[k].src.length sc)).setCell ⟨g,k*10+8,none⟩ (.slice zo l[k].cases.length zc)).setCell ⟨g,k*10+9,none⟩ (.slice go l[k].segs.length gc)).heap[b]?=w2.heap[b]?:=fun b hbg=>
   (zzq3 _ _ _ _ hbg).trans ((zzq3 _ _ _ _ hbg).trans (zzq3 _ _ _ _ hbg))
  have hsz:(((w2.setCell ⟨g,k*10+3,none⟩ (.slice so l[k].src.length sc)).setCell ⟨g,k*10+8,none⟩ (.slice zo l[k].cases.length zc)).setCell ⟨g,k*10+9,none⟩ (.slice go l[k].segs.length gc)).heap.size=w2.heap.size:=by simp [World.setCell]
  generalize((w2.setCell ⟨g,k*10+3,none⟩ (.slice so l[k].src.length sc)).setCell ⟨g,k*10+8,none⟩ (.slice zo l[k].cases.length zc)).setCell ⟨g,k*10+9,none⟩ (.slice go l[k].segs.length gc)=w5 at *
  have far: ∀j i,j≠k->i<10->(((arr.setIfInBounds (k*10+3) (.slice so l[k].src.length sc)).setIfInBounds (k*10+8) (.slice zo l[k].cases.length zc)).setIfInBounds (k*10+9) (.slice go l[k].segs.length gc))[j*10+i]?=arr[j*10+i]?:=fun j i hj hi=>by
   rw [Array.getElem?_setIfInBounds_ne (by omega),Array.getElem?_setIfInBounds_ne (by omega),Array.getElem?_setIfInBounds_ne (by omega)]
  refine .inr ⟨g,_,fun j=>if j<k then a j else wr.heap.size,fun j=>if j<k then e j else w2.heap.size,rfl,hb1,q1,fun j hj=>?_,fun j hj=>?_⟩
  ·exact zz9
  ·obtain⟨cs,k1,k2,k3,k4⟩:=hx j hj
   by_cases d:j=k
   ·subst d
    obtain⟨⟨so0,sc0,zo0,zc0,go0,gc0,e2,-,-,-⟩,ho⟩:=k4 (zzL _);refine⟨zde l[j] so sc zo zc go gc,rfl,fun i hi=>?_,fun _=>?_,fun h=>by omega⟩
    ·have hi':i=0\/i=1\/i=2\/i=3\/i=4\/i=5\/i=6\/i=7\/i=8\/i=9:=by omega
     have k2i:=k2 i hi;subst e2;rcases hi' with rfl|rfl|rfl|rfl|rfl|rfl|rfl|rfl|rfl|rfl
     all_goals first
      |(rw [Array.getElem?_setIfInBounds_self_of_lt (by simp;omega)];rfl)
      |(rw [Array.getElem?_setIfInBounds_ne (by omega),Array.getElem?_setIfInBounds_self_of_lt (by simp;omega)];rfl)
      |(rw [Array.getElem?_setIfInBounds_ne (by omega),Array.getElem?_setIfInBounds_ne (by omega),Array.getElem?_setIfInBounds_self_of_lt (by omega)];rfl)
      |(rw [Array.getElem?_setIfInBounds_ne (by omega),Array.getElem?_setIfInBounds_ne (by omega),Array.getElem?_setIfInBounds_ne (by omega),k2i];rfl)
    ·simp only [Nat.lt_irrefl,if_false]
     exact⟨⟨so,sc,zo,zc,go,gc,rfl,h1.kept (fun b b1 b2=>hkk b (by omega)) (zzL _) (zzL _) fun _ _ _ _ _ _ h=>h,h2.kept (fun b b1 b2=>hkk b (by omega)) (zzL _) (zzL _) fun _ _ _ _ _ _ h=>h,h3.kept (fun b b1 b2=>hkk b (by omega)) (zzL _) (zzL _) fun _ _ _ _ _ _ h=>h⟩,ho⟩
   ·refine⟨cs,k1,fun i hi=>by rw [far j i d hi,k2 i hi],fun hjk=>?_,fun hjk=>k4 (by omega)⟩
    exact zz10
theorem zev (f:Nat) (u:RUnit) (lo fo go co:zzA) (lc fc gc cc:Nat) (w:World) (h:UP w u lo fo go co) (hd:SlAt w 9 (TmAt w f) lo u.lits) (hcap:zR (u.lits.map (zv f))+u.lits.length<=1000000) (hl:zeI u):
  Calls Tryz.prog 46 #[.agg (zzu u lo lc fo fc go gc co cc)] w fun e w'=>(∃lo' lc' fo' fc' go' gc' co' cc',e= .returned (.agg (zzu u lo' lc' fo' fc' go' gc' co' cc'))/\UNew w' f w.heap.size w'.heap.size u lo' fo' go' co')/\Below w.heap.size w w':=by
 unfold zzu;obtain⟨e0,e1,eb,es⟩:=zer w (.cells #[.string u.mdl,.int .i64 u.vsn,.slice lo u.lits.length lc,.slice fo u.funcs.length fc,.slice go u.funs.length gc,.slice co u.code.length cc] 27) (.cells #[.string ⟨#[]⟩,.int .i64 0,.slice none 0 0,.slice none 0 0,.slice none 0 0,.slice none 0 0] 27);refine zzK8 e0 e1 eb es h hd hcap hl fun HE0 HE1 HB HSZ HUP HD HCAP HLN=>?_;have hll:u.lits.length<=1000000:=by omega
 clear e0 e1 eb es h hd hcap hl;go_in;go_upto_region 1 with fail;generalize(w.alloc _).alloc _=W at *;have hcl:=zi4 (R:=TmAt w f) zkp u.lits lo lc W (HD.out.mono HB.out fun _ _ h=>h) (by omega);have hupw:UP w u lo fo go co:=HUP.out;have HCL:=zzH hcl;clear hcl hupw;have hN0:w.heap.size=w.heap.size:=rfl;generalize hN:w.heap.size=N at *;have HN:=zzH hN;clear hN hN0;have c2:W.cell? ⟨N,2,none⟩=some (.slice lo u.lits.length lc):=by rw [zzq0 _ _ _ _ _ _ HE0.out];rfl
 go_upto_region 2 with(go_at_call 77;refine HCL.out.mono ?_;rintro e w2 ⟨⟨lo1,lc1,rfl,hsl⟩,hb2⟩;have g2:w2.cell? ⟨N,2,none⟩=some (.slice lo u.lits.length lc):=(hb2.cell (p:=⟨N,2,none⟩) (zb HE0.out)).trans c2;have f2:w2.frozen? ⟨N,2,none⟩=false:=zzq2 _ _ 2 _ _ ((hb2.block _ (zb HE0.out)).trans HE0.out));have r0:=zzS w2 N 2 _ _ (.slice lo1 u.lits.length lc1) ((hb2.block _ (zb HE0.out)).trans HE0.out);have r1:=(zzq3 w2 ⟨N,2,none⟩ (N+1) (.slice lo1 u.lits.length lc1) (by simp)).trans ((hb2.block _ (zb HE1.out)).trans HE1.out);have hbn:Below N w (w2.setCell ⟨N,2,none⟩ (.slice lo1 u.lits.length lc1)):=(HB.out.trans (hb2.mono (by have:=HSZ.out;omega))).setCell (zzL _) _;have hsl3:=hsl.kept (w':=w2.setCell ⟨N,2,none⟩ (.slice lo1 u.lits.length lc1)) (fun b hb _=>zzq3 _ _ _ _ (by show b≠N;have:=HSZ.out;omega)) (zzL _) (zzL _) fun _ _ _ _ _ _ h=>h
 rw [HSZ.out]at hsl3;have hli:=LitI.start hsl3;generalize w2.setCell ⟨N,2,none⟩ (.slice lo1 u.lits.length lc1)=w3 at *
 replace r0:w3.heap[N]?=some (.cells #[.string u.mdl,.int .i64 u.vsn,.slice lo1 u.lits.length lc1,.slice fo u.funcs.length fc,.slice go u.funs.length gc,.slice co u.code.length cc] 27 (0,0)):=r0
 have c2':w3.cell? ⟨N,2,none⟩=some (.slice lo1 u.lits.length lc1):=by rw [zzq0 _ _ _ _ _ _ r0];rfl
 refine zzK4 r0 r1 hbn hli fun HR0 HR1 HBN HLI=>?_;clear r0 r1 hbn hli hsl3 hsl hb2 g2 f2 c2;go_wp2_with fail;go_loopw [13] (fun iv wr=> ∃k:Nat,k<=u.lits.length/\iv= .int .i64 k/\Hid (wr.heap[N]?=some (.cells #[.string u.mdl,.int .i64 u.vsn,.slice lo1 u.lits.length lc1,.slice fo u.funcs.length fc,.slice go u.funs.length gc,.slice co u.code.length cc] 27 (0,0)))/\Hid (wr.heap[N+1]?=some (.cells #[.string ⟨#[]⟩,.int .i64 0,.slice none 0 0,.slice none 0 0,.slice none 0 0,.slice none 0 0] 27 (0,0)))/\Hid (LitI f N w u.lits lo1 k wr)/\Hid (Below N w wr)) (fun i _=>u.lits.length-(intOf i).toNat)
 case atStart=>exact⟨0,zzZ _,rfl,HR0,HR1,HLI,HBN⟩
 case round=>
  obtain⟨k,hk,rfl,HR,HZ,HL,HBN⟩:=hrel;rename World=>wr
  clear HR0 HR1 HLI c2';by_cases hlt:k<u.lits.length
  ·obtain⟨g,arr,so,c,f',hff,hlo,hgN,hg,ha,hq,hs,hok⟩:=HL.out.next hlt
   subst hlo;subst hff;have hct:zv (f'+1) u.lits[k]<=1000000:=by have:=zff (f:=f'+1) (zzM hlt);have:=HCAP.out;omega
   obtain⟨t,ht⟩: ∃t,t=u.lits[k]:=⟨_,rfl⟩;rw [<-ht]at hq hs hok hct;refine zzK3 hg ht hok fun HG HT HOK=>?_;have c2:wr.cell? ⟨N,2,none⟩=some (.slice (some ⟨g,0,none⟩) u.lits.length lc1):=by rw [zzq0 _ _ _ _ _ _ HR.out];rfl
   have q0:wr.cell? ⟨g,k*9,none⟩=some (.int .i64 t.kind):=(hq 0 (by decide));have q1:wr.cell? ⟨g,k*9+1,none⟩=some (.int .i64 t.int):=(hq 1 (by decide));have q2:wr.cell? ⟨g,k*9+2,none⟩=some (.int .i64 t.gen):=(hq 2 (by decide));have q3:wr.cell? ⟨g,k*9+3,none⟩=some (.string t.name):=(hq 3 (by decide));have q4:wr.cell? ⟨g,k*9+4,none⟩=some (.string t.func):=(hq 4 (by decide));have q5:wr.cell? ⟨g,k*9+5,none⟩=some (.int .i64 t.arity):=(hq 5 (by decide));have q6:wr.cell? ⟨g,k*9+6,none⟩=some (.slice so t.items.length c):=(hq 6 (by decide));have q7:wr.cell? ⟨g,k*9+7,none⟩=some (.string t.bytes):=(hq 7 (by decide));have q8:wr.cell? ⟨g,k*9+8,none⟩=some (.int .i64 t.bits):=(hq 8 (by decide));have hcp:=zkj f' t so c wr.drew (hs.mono (HN.out▸HBN.out.drew) fun _ _ h=>h.below (HN.out▸HBN.out.drew)) hok hct;have HCP:=zzH hcp;clear hcp hs hok hct hq hg ht;go_upto_region 5 with fail;have K1:Hid (wr.drew.cell? ⟨N,2,none⟩=some (.slice (some ⟨g,0,none⟩) u.lits.length lc1)/\wr.drew.cell? ⟨g,k*9,none⟩=some (.int .i64 t.kind)/\wr.drew.cell? ⟨g,k*9+1,none⟩=some (.int .i64 t.int)/\wr.drew.cell? ⟨g,k*9+2,none⟩=some (.int .i64 t.gen)/\wr.drew.cell? ⟨g,k*9+3,none⟩=some (.string t.name)/\wr.drew.cell? ⟨g,k*9+4,none⟩=some (.string t.func)/\wr.drew.cell? ⟨g,k*9+5,none⟩=some (.int .i64 t.arity)/\wr.drew.cell? ⟨g,k*9+6,none⟩=some (.slice so t.items.length c)/\wr.drew.cell? ⟨g,k*9+7,none⟩=some (.string t.bytes)/\wr.drew.cell? ⟨g,k*9+8,none⟩=some (.int .i64 t.bits)):=zzH ⟨by simpa using c2,by simpa using q0,by simpa using q1,by simpa using q2,by simpa using q3,by simpa using q4,by simpa using q5,by simpa using q6,by simpa using q7,by simpa using q8⟩;refine zb5 10 (fun w'=>True) (fun w'=>w'.cell? ⟨N,2,none⟩=some (.slice (some ⟨g,0,none⟩) u.lits.length lc1)/\w'.cell? ⟨g,k*9,none⟩=some (.int .i64 t.kind)/\w'.cell? ⟨g,k*9+1,none⟩=some (.int .i64 t.int)/\w'.cell? ⟨g,k*9+2,none⟩=some (.int .i64 t.gen)/\w'.cell? ⟨g,k*9+3,none⟩=some (.string t.name)/\w'.cell? ⟨g,k*9+4,none⟩=some (.string t.func)/\w'.cell? ⟨g,k*9+5,none⟩=some (.int .i64 t.arity)/\w'.cell? ⟨g,k*9+6,none⟩=some (.slice so t.items.length c)/\w'.cell? ⟨g,k*9+7,none⟩=some (.string t.bytes)/\w'.cell? ⟨g,k*9+8,none⟩=some (.int .i64 t.bits)) (by kernel_rfl) ⟨trivial,K1.out⟩ (fun hHeld=>?_);refine ze 0 hHeld ?_;simp only [zzX0];refine zU [] 1 hHeld ?_;simp only [zzX0];refine ze 2 hHeld ?_;simp only [zzX0];refine ze 3 hHeld ?_;simp only [zzX0];refine zU [] 4 hHeld ?_;simp only [zzX0];refine ze 5 hHeld ?_;simp only [zzX0];refine ze 6 hHeld ?_;simp only [zzX0];refine zU [] 7 hHeld ?_;simp only [zzX0];refine zbb 8 fun KK hK=>?_
   go_simp;refine HCP.out.mono ?_;rintro e w5 ⟨⟨so',c',rfl,hs5⟩,hb5⟩;have hbr:Below wr.heap.size wr w5:=(zzR wr.heap.size wr).drew.trans hb5;have hr5:=(hbr.block _ (zb HG.out)).trans HG.out;have K5:Hid (w5.cell? ⟨N,2,none⟩=some (.slice (some ⟨g,0,none⟩) u.lits.length lc1)/\w5.cell? ⟨g,k*9,none⟩=some (.int .i64 t.kind)/\w5.cell? ⟨g,k*9+1,none⟩=some (.int .i64 t.int)/\w5.cell? ⟨g,k*9+2,none⟩=some (.int .i64 t.gen)/\w5.cell? ⟨g,k*9+3,none⟩=some (.string t.name)/\w5.cell? ⟨g,k*9+4,none⟩=some (.string t.func)/\w5.cell? ⟨g,k*9+5,none⟩=some (.int .i64 t.arity)/\w5.cell? ⟨g,k*9+6,none⟩=some (.slice so t.items.length c)/\w5.cell? ⟨g,k*9+7,none⟩=some (.string t.bytes)/\w5.cell? ⟨g,k*9+8,none⟩=some (.int .i64 t.bits)):=zzH ⟨(hbr.cell (p:=⟨N,2,none⟩) (zb HR.out)).trans c2,(hbr.cell (p:=⟨g,k*9,none⟩) (zb HG.out)).trans q0,(hbr.cell (p:=⟨g,k*9+1,none⟩) (zb HG.out)).trans q1,(hbr.cell (p:=⟨g,k*9+2,none⟩) (zb HG.out)).trans q2,(hbr.cell (p:=⟨g,k*9+3,none⟩) (zb HG.out)).trans q3,(hbr.cell (p:=⟨g,k*9+4,none⟩) (zb HG.out)).trans q4,(hbr.cell (p:=⟨g,k*9+5,none⟩) (zb HG.out)).trans q5,(hbr.cell (p:=⟨g,k*9+6,none⟩) (zb HG.out)).trans q6,(hbr.cell (p:=⟨g,k*9+7,none⟩) (zb HG.out)).trans q7,(hbr.cell (p:=⟨g,k*9+8,none⟩) (zb HG.out)).trans q8⟩;refine zzK3 hr5 hbr hs5 fun HR5 HBR HS5=>?_;have x0:=K5.out.2.1;have z0:=zzq2 _ _ (k*9) _ _ HR5.out;have x1:=K5.out.2.2.1;have z1:=zzq2 _ _ (k*9+1) _ _ HR5.out;have x2:=K5.out.2.2.2.1;have z2:=zzq2 _ _ (k*9+2) _ _ HR5.out;have x3:=K5.out.2.2.2.2.1;have z3:=zzq2 _ _ (k*9+3) _ _ HR5.out;have x4:=K5.out.2.2.2.2.2.1;have z4:=zzq2 _ _ (k*9+4) _ _ HR5.out;have x5:=K5.out.2.2.2.2.2.2.1;have z5:=zzq2 _ _ (k*9+5) _ _ HR5.out;have x6:=K5.out.2.2.2.2.2.2.2.1;have z6:=zzq2 _ _ (k*9+6) _ _ HR5.out;have x7:=K5.out.2.2.2.2.2.2.2.2.1;have z7:=zzq2 _ _ (k*9+7) _ _ HR5.out;have x8:=K5.out.2.2.2.2.2.2.2.2.2;have z8:=zzq2 _ _ (k*9+8) _ _ HR5.out;clear hb5 hr5 hbr hs5;refine hK.out _ _ ⟨trivial,K5.out⟩ ?_;clear hK KK
   try simp only [zzX0]
   refine ze 9 ⟨trivial,K5.out⟩ ?_;simp only [zzX0];refine zba 10 fun KK hK=>?_
   go_simp;refine hK.out _ _ trivial ?_;clear hK KK
   try simp only [zzX0]
   refine zbV (by kernel_rfl) ?_ _;generalize hw7:World.setCell _ _ _=w7;have hw7':w7=setL g (zca t so' c') (k*9) w5:=hw7.symm;have hst:=HL.out.step (so:=so') (c:=c') hlt (by have:=zb HZ.out;omega) HBR.out (by rw [<-HT.out];exact HS5.out.kept (fun _ _ _=>rfl) (zzL _) (zzL _) fun _ _ _ _ _ _ h=>h) (by rw [<-HT.out];exact HOK.out);rw [<-HT.out,<-hw7']at hst;have hn7:w7.heap[N]?=some (.cells #[.string u.mdl,.int .i64 u.vsn,.slice (some ⟨g,0,none⟩) u.lits.length lc1,.slice fo u.funcs.length fc,.slice go u.funs.length gc,.slice co u.code.length cc] 27 (0,0)):=by rw [hw7',zcA (by omega)];exact(HBR.out.block _ (zb HR.out)).trans HR.out
   have hn8:w7.heap[N+1]?=some (.cells #[.string ⟨#[]⟩,.int .i64 0,.slice none 0 0,.slice none 0 0,.slice none 0 0,.slice none 0 0] 27 (0,0)):=by rw [hw7',zcA (by omega)];exact(HBR.out.block _ (zb HZ.out)).trans HZ.out
   have hbw:Below N w w7:=by rw [hw7'];exact zge (by omega) _ _ _ (HBN.out.trans (HBR.out.mono (by have:=zb HR.out;omega)))
   clear hw7 hw7';refine zzK4 hn7 hn8 hst hbw fun H7 H8 HST HBW=>?_;clear hn7 hn8 hst hbw K5 K1 hHeld x0 x1 x2 x3 x4 x5 x6 x7 x8 z0 z1 z2 z3 z4 z5 z6 z7 z8 q0 q1 q2 q3 q4 q5 q6 q7 q8;go_wp2_with fail;go_roundw
   case rel=>exact⟨k+1,by omega,by go_num,H7,H8,HST,HBW⟩
   case measure=>simp [intOf];omega
  ·have hkl:k=u.lits.length:=by omega
   subst hkl;have hL:=HL.out.stop;have c3:wr.cell? ⟨N,3,none⟩=some (.slice fo u.funcs.length fc):=by rw [zzq0 _ _ _ _ _ _ HR.out];rfl
   have c4:wr.cell? ⟨N,4,none⟩=some (.slice go u.funs.length gc):=by rw [zzq0 _ _ _ _ _ _ HR.out];rfl
   have c5:wr.cell? ⟨N,5,none⟩=some (.slice co u.code.length cc):=by rw [zzq0 _ _ _ _ _ _ HR.out];rfl
   have HLS:=zzH hL;have HBM:Hid (Below w.heap.size w wr):=zzH (by rw [HN.out];exact HBN.out);clear hL HL;go_upto_region 7 with fail;have K1:Hid (wr.drew.cell? ⟨N,3,none⟩=some (.slice fo u.funcs.length fc)/\wr.drew.cell? ⟨N,4,none⟩=some (.slice go u.funs.length gc)/\wr.drew.cell? ⟨N,5,none⟩=some (.slice co u.code.length cc)):=zzH ⟨by simpa using c3,by simpa using c4,by simpa using c5⟩;refine zb5 10 (fun w'=>True) (fun w'=>w'.cell? ⟨N,3,none⟩=some (.slice fo u.funcs.length fc)/\w'.cell? ⟨N,4,none⟩=some (.slice go u.funs.length gc)/\w'.cell? ⟨N,5,none⟩=some (.slice co u.code.length cc)) (by kernel_rfl) ⟨trivial,K1.out⟩ (fun hHeld=>?_);refine ze 0 hHeld ?_;simp only [zzX0];refine zU [] 1 hHeld ?_;simp only [zzX0];refine ze 3 hHeld ?_;simp only [zzX0];refine zU [] 4 hHeld ?_;simp only [zzX0];refine ze 6 hHeld ?_;simp only [zzX0];refine zU [] 7 hHeld ?_;simp only [zzX0];refine zbb 2 fun KK hK=>?_
   go_simp;refine(zi7 zfO u.funcs fo fc _ (HUP.out.funcs.mono (Below.trans HBM.out (Below.mono ((zzR wr.heap.size wr).drew) HBM.out.size)) fun _ _ h=>h) HLN.out.1).mono ?_;rintro e w6 ⟨⟨fo1,fc1,rfl,hsw6⟩,hbw6⟩;have hbrw6:Below wr.heap.size wr w6:=((zzR wr.heap.size wr).drew).trans hbw6;have Kw6:Hid (w6.cell? ⟨N,3,none⟩=some (.slice fo u.funcs.length fc)/\w6.cell? ⟨N,4,none⟩=some (.slice go u.funs.length gc)/\w6.cell? ⟨N,5,none⟩=some (.slice co u.code.length cc)):=zzH ⟨(hbrw6.cell (p:=⟨N,3,none⟩) (zb HR.out)).trans c3,(hbrw6.cell (p:=⟨N,4,none⟩) (zb HR.out)).trans c4,(hbrw6.cell (p:=⟨N,5,none⟩) (zb HR.out)).trans c5⟩;refine zzK3 hsw6 hbw6 hbrw6 fun HSw6 HBw6 HBRw6=>?_;clear hsw6 hbw6 hbrw6;refine hK.out _ _ ⟨trivial,Kw6.out⟩ ?_;clear hK KK
   try simp only [zzX0]
   refine ze 9 ⟨trivial,Kw6.out⟩ ?_;simp only [zzX0];refine zbb 5 fun KK hK=>?_
   go_simp;refine(zkQ zgN u.funs go gc _ (HUP.out.funs.mono (Below.trans HBM.out (HBRw6.out.mono HBM.out.size)) fun _ _ h=>h) HLN.out.2.1).mono ?_;rintro e w7 ⟨⟨go1,gc1,rfl,hsw7⟩,hbw7⟩;have hbrw7:Below wr.heap.size wr w7:=HBRw6.out.trans (hbw7.mono HBRw6.out.size);have Kw7:Hid (w7.cell? ⟨N,3,none⟩=some (.slice fo u.funcs.length fc)/\w7.cell? ⟨N,4,none⟩=some (.slice go u.funs.length gc)/\w7.cell? ⟨N,5,none⟩=some (.slice co u.code.length cc)):=zzH ⟨(hbrw7.cell (p:=⟨N,3,none⟩) (zb HR.out)).trans c3,(hbrw7.cell (p:=⟨N,4,none⟩) (zb HR.out)).trans c4,(hbrw7.cell (p:=⟨N,5,none⟩) (zb HR.out)).trans c5⟩;refine zzK3 hsw7 hbw7 hbrw7 fun HSw7 HBw7 HBRw7=>?_;clear hsw7 hbw7 hbrw7;refine hK.out _ _ ⟨trivial,Kw7.out⟩ ?_;clear hK KK
   try simp only [zzX0]
   refine zbb 8 fun KK hK=>?_
   go_simp;refine(zka zgl u.code co cc _ (HUP.out.code.mono (Below.trans HBM.out (HBRw7.out.mono HBM.out.size)) fun _ _ h=>h) HLN.out.2.2.1).mono ?_;rintro e w8 ⟨⟨co1,cc1,rfl,hsw8⟩,hbw8⟩;have hbrw8:Below wr.heap.size wr w8:=HBRw7.out.trans (hbw8.mono HBRw7.out.size);have Kw8:Hid (w8.cell? ⟨N,3,none⟩=some (.slice fo u.funcs.length fc)/\w8.cell? ⟨N,4,none⟩=some (.slice go u.funs.length gc)/\w8.cell? ⟨N,5,none⟩=some (.slice co u.code.length cc)):=zzH ⟨(hbrw8.cell (p:=⟨N,3,none⟩) (zb HR.out)).trans c3,(hbrw8.cell (p:=⟨N,4,none⟩) (zb HR.out)).trans c4,(hbrw8.cell (p:=⟨N,5,none⟩) (zb HR.out)).trans c5⟩;refine zzK3 hsw8 hbw8 hbrw8 fun HSw8 HBw8 HBRw8=>?_;clear hsw8 hbw8 hbrw8;have hr8:=(HBRw8.out.block N (zb HR.out)).trans HR.out;have HR8:=zzH hr8;have y3:=Kw8.out.1;have y4:=Kw8.out.2.1;have y5:=Kw8.out.2.2;have z3:=zzq2 _ _ 3 _ _ hr8;have z4:=zzq2 _ _ 4 _ _ hr8;have z5:=zzq2 _ _ 5 _ _ hr8;clear hr8;refine hK.out _ _ ⟨trivial,Kw8.out⟩ ?_;clear hK KK
   try simp only [zzX0]
   refine zba 10 fun KK hK=>?_
   go_simp;refine hK.out _ _ trivial ?_;clear hK KK
   try simp only [zzX0]
   refine zba 11 fun KK hK=>?_
   go_simp;refine hK.out _ _ trivial ?_;clear hK KK
   try simp only [zzX0]
   refine zba 12 fun KK hK=>?_
   go_simp;refine hK.out _ _ trivial ?_;clear hK KK
   try simp only [zzX0]
   refine zba 13 fun KK hK=>?_
   go_simp;refine hK.out _ _ trivial ?_;clear hK KK
   try simp only [zzX0]
   refine zba 14 fun KK hK=>?_
   go_simp;refine hK.out _ _ trivial ?_;clear hK KK
   try simp only [zzX0]
   refine zbV (by kernel_rfl) ?_ _;have d0:=zzS _ _ 5 _ _ (.slice co1 u.code.length cc1) (zzS _ _ 4 _ _ (.slice go1 u.funs.length gc1) (zzS w8 N 3 _ _ (.slice fo1 u.funcs.length fc1) HR8.out));have dk: ∀b,b≠N->(((w8.setCell ⟨N,3,none⟩ (.slice fo1 u.funcs.length fc1)).setCell ⟨N,4,none⟩ (.slice go1 u.funs.length gc1)).setCell ⟨N,5,none⟩ (.slice co1 u.code.length cc1)).heap[b]?=w8.heap[b]?:=fun b hb=>(zzq3 _ _ _ _ hb).trans ((zzq3 _ _ _ _ hb).trans (zzq3 _ _ _ _ hb))
   have ds:(((w8.setCell ⟨N,3,none⟩ (.slice fo1 u.funcs.length fc1)).setCell ⟨N,4,none⟩ (.slice go1 u.funs.length gc1)).setCell ⟨N,5,none⟩ (.slice co1 u.code.length cc1)).heap.size=w8.heap.size:=by simp [World.setCell]
   have db:Below N w (((w8.setCell ⟨N,3,none⟩ (.slice fo1 u.funcs.length fc1)).setCell ⟨N,4,none⟩ (.slice go1 u.funs.length gc1)).setCell ⟨N,5,none⟩ (.slice co1 u.code.length cc1)):=((((HN.out▸HBM.out:Below N w wr).trans (HBRw8.out.mono (HN.out▸HBM.out.size))).setCell (p:=⟨N,3,none⟩) (zzL _) _).setCell (p:=⟨N,4,none⟩) (zzL _) _).setCell (p:=⟨N,5,none⟩) (zzL _) _;generalize((w8.setCell ⟨N,3,none⟩ (.slice fo1 u.funcs.length fc1)).setCell ⟨N,4,none⟩ (.slice go1 u.funs.length gc1)).setCell ⟨N,5,none⟩ (.slice co1 u.code.length cc1)=wz at *
   replace d0:wz.heap[N]?=some (.cells #[.string u.mdl,.int .i64 u.vsn,.slice lo1 u.lits.length lc1,.slice fo1 u.funcs.length fc1,.slice go1 u.funs.length gc1,.slice co1 u.code.length cc1] 27 (0,0)):=d0
   have hs7:=HSw7.out;have hs8:=HSw8.out;have hz6:w6.heap.size<=w7.heap.size:=HBw7.out.size;have hz7:w7.heap.size<=w8.heap.size:=HBw8.out.size;have hzr:wr.heap.size<=w6.heap.size:=HBw6.out.size;have hnr:N+2<=wr.heap.size:=by have:=zb HZ.out;omega
   have hL1:SlS wz (SepT wz f) 116 9 (N+2) wr.heap.size lo1 u.lits:=HLS.out.kept (fun b b1 b2=>(dk b (by omega)).trans (HBRw8.out.block b b2)) (zzL _) (zzL _) fun a e cs t ha he hx=>hx.kept (fun b b1 b2=>(dk b (by omega)).trans (HBRw8.out.block b (by omega))) (zzL _) (zzL _)
   have hF1:SlS wz (fun _ _=>zcl) 106 4 wr.heap.size w6.heap.size fo1 u.funcs:=HSw6.out.kept (fun b b1 b2=>(dk b (by have:wr.heap.size<=b:=b1;omega)).trans (((HBw7.out.trans (HBw8.out.mono HBw7.out.size)).block b b2))) (zzL _) (zzL _) fun _ _ _ _ _ _ h=>h
   have hG1:SlS wz (fun _ _=>zbB) 70 3 w6.heap.size w7.heap.size go1 u.funs:=HSw7.out.kept (fun b b1 b2=>(dk b (by omega)).trans (HBw8.out.block b b2)) (zzL _) (zzL _) fun _ _ _ _ _ _ h=>h
   have hI1:InsI w7.heap.size w u.code co1 0 wz:=InsI.start (hi:=w8.heap.size) (HSw8.out.kept (fun b b1 b2=>dk b (by omega)) (zzL _) (zzL _) fun _ _ _ _ _ _ h=>h);have hZ1:wz.heap[N+1]?=some (.cells #[.string ⟨#[]⟩,.int .i64 0,.slice none 0 0,.slice none 0 0,.slice none 0 0,.slice none 0 0] 27 (0,0)):=(dk _ (by omega)).trans ((HBRw8.out.block _ (zb HZ.out)).trans HZ.out)
   refine zzK7 d0 db hL1 hF1 hG1 hI1 hZ1 fun HD0 HDB HL1 HF1 HG1 HI1 HZ1=>?_;have HM:Hid (N+2<=wr.heap.size/\wr.heap.size<=w6.heap.size/\w6.heap.size<=w7.heap.size/\w7.heap.size<=wz.heap.size):=zzH ⟨hnr,hzr,hz6,by omega⟩;have e5:wz.cell? ⟨N,5,none⟩=some (.slice co1 u.code.length cc1):=by rw [zzq0 _ _ _ _ _ _ d0];rfl
   have hlc:u.code.length<=1100000000000:=by have:=HLN.out.2.2.1;omega
   generalize w6.heap.size=M2 at *;generalize w7.heap.size=M3 at *;generalize wr.heap.size=M1 at *;clear dk ds db d0 hs7 hs8 hz6 hz7 hzr hnr hL1 hF1 hG1 hI1 hZ1 hHeld K1 Kw6 Kw7 Kw8 HSw6 HSw7 HSw8 HBw6 HBw7 HBw8 HBRw6 HBRw7 HBRw8 HR8 y3 y4 y5 z3 z4 z5 c3 c4 c5 HLS HBM HR HZ HBN;go_wp2_with fail;go_loopw [42] (fun iv wv=> ∃k:Nat,k<=u.code.length/\iv= .int .i64 k/\Hid (wv.heap[N]?=some (.cells #[.string u.mdl,.int .i64 u.vsn,.slice lo1 u.lits.length lc1,.slice fo1 u.funcs.length fc1,.slice go1 u.funs.length gc1,.slice co1 u.code.length cc1] 27 (0,0)))/\Hid (wv.heap[N+1]?=some (.cells #[.string ⟨#[]⟩,.int .i64 0,.slice none 0 0,.slice none 0 0,.slice none 0 0,.slice none 0 0] 27 (0,0)))/\Hid (InsI M3 w u.code co1 k wv)/\Hid (Below N w wv)/\Hid (∀b,N+2<=b->b<M3->wv.heap[b]?=wz.heap[b]?)/\Hid (wz.heap.size<=wv.heap.size)) (fun i _=>u.code.length-(intOf i).toNat)
   case atStart=>exact⟨0,zzZ _,rfl,HD0,HZ1,HI1,HDB,zzH fun _ _ _=>rfl,zzH (zzL _)⟩
   case round=>
    obtain⟨k,hk,rfl,HR,HZ,HL,HBN,HKP,HSV⟩:=hrel;rename World=>wv
    clear HD0 HI1 HDB HZ1;have e5:wv.cell? ⟨N,5,none⟩=some (.slice co1 u.code.length cc1):=by rw [zzq0 _ _ _ _ _ _ HR.out];rfl
    by_cases hlt:k<u.code.length
    ·obtain⟨g,arr,so,sc,zo,zc,go2,gc2,hco,hgM,hg,ha,hq,h1,h2,h3,hib⟩:=HL.out.next hlt
     subst hco;obtain⟨x,hx⟩: ∃x,x=u.code[k]:=⟨_,rfl⟩;rw [<-hx]at hq h1 h2 h3 hib;have q3:wv.cell? ⟨g,k*10+3,none⟩=some (.slice so x.src.length sc):=hq 3 (by decide);have q8:wv.cell? ⟨g,k*10+8,none⟩=some (.slice zo x.cases.length zc):=hq 8 (by decide);have q9:wv.cell? ⟨g,k*10+9,none⟩=some (.slice go2 x.segs.length gc2):=hq 9 (by decide);have HXL:Hid (x.src.length*16<=140737488355328/\x.cases.length*16<=140737488355328/\x.segs.length*48<=140737488355328):=zzH (HLN.out.2.2.2 x (by rw [hx];exact zzM hlt));have HXS:Hid (SlAt w 2 zcB so x.src/\SlAt w 2 zbP zo x.cases/\SlAt w 6 zcD go2 x.segs):=zzH ⟨h1,h2,h3⟩;have HG:=zzH hg;have HX:=zzH hx;have HBM2:Hid (Below w.heap.size w wv):=zzH (by rw [HN.out];exact HBN.out);have hgN:N+2<=g:=by have:=HM.out;omega
     clear hg hx h1 h2 h3 hib hq;go_upto_region 12 with fail;have K1:Hid (wv.drew.cell? ⟨g,k*10+3,none⟩=some (.slice so x.src.length sc)/\wv.drew.cell? ⟨g,k*10+8,none⟩=some (.slice zo x.cases.length zc)/\wv.drew.cell? ⟨g,k*10+9,none⟩=some (.slice go2 x.segs.length gc2)):=zzH ⟨by simpa using q3,by simpa using q8,by simpa using q9⟩;refine zb5 20 (fun w'=>True) (fun w'=>w'.cell? ⟨g,k*10+3,none⟩=some (.slice so x.src.length sc)/\w'.cell? ⟨g,k*10+8,none⟩=some (.slice zo x.cases.length zc)/\w'.cell? ⟨g,k*10+9,none⟩=some (.slice go2 x.segs.length gc2)) (by kernel_rfl) ⟨trivial,K1.out⟩ (fun hHeld=>?_);refine ze 0 hHeld ?_;simp only [zzX0];refine ze 1 hHeld ?_;simp only [zzX0];refine ze 2 hHeld ?_;simp only [zzX0];refine ze 3 hHeld ?_;simp only [zzX0];refine ze 4 hHeld ?_;simp only [zzX0];refine ze 5 hHeld ?_;simp only [zzX0];refine zU [] 6 hHeld ?_;simp only [zzX0];refine ze 8 hHeld ?_;simp only [zzX0];refine ze 9 hHeld ?_;simp only [zzX0];refine ze 10 hHeld ?_;simp only [zzX0];refine zU [] 11 hHeld ?_;simp only [zzX0];refine ze 13 hHeld ?_;simp only [zzX0];refine ze 14 hHeld ?_;simp only [zzX0];refine ze 15 hHeld ?_;simp only [zzX0];refine zU [] 16 hHeld ?_;simp only [zzX0];refine zbb 7 fun KK hK=>?_
     go_simp;refine(zki zgh x.src so sc _ (HXS.out.1.mono (Below.trans HBM2.out (Below.mono ((zzR wv.heap.size wv).drew) HBM2.out.size)) fun _ _ h=>h) HXL.out.1).mono ?_;rintro e v6 ⟨⟨so1,sc1,rfl,hsv6⟩,hbv6⟩;have hbrv6:Below wv.heap.size wv v6:=((zzR wv.heap.size wv).drew).trans hbv6;have Kv6:Hid (v6.cell? ⟨g,k*10+3,none⟩=some (.slice so x.src.length sc)/\v6.cell? ⟨g,k*10+8,none⟩=some (.slice zo x.cases.length zc)/\v6.cell? ⟨g,k*10+9,none⟩=some (.slice go2 x.segs.length gc2)):=zzH ⟨(hbrv6.cell (p:=⟨g,k*10+3,none⟩) (zb HG.out)).trans q3,(hbrv6.cell (p:=⟨g,k*10+8,none⟩) (zb HG.out)).trans q8,(hbrv6.cell (p:=⟨g,k*10+9,none⟩) (zb HG.out)).trans q9⟩;refine zzK3 hsv6 hbv6 hbrv6 fun HSv6 HBv6 HBRv6=>?_;clear hsv6 hbv6 hbrv6;refine hK.out _ _ ⟨trivial,Kv6.out⟩ ?_;clear hK KK
     try simp only [zzX0]
     refine zbb 12 fun KK hK=>?_
     go_simp;refine(ziF zfY x.cases zo zc _ (HXS.out.2.1.mono (Below.trans HBM2.out (HBRv6.out.mono HBM2.out.size)) fun _ _ h=>h) HXL.out.2.1).mono ?_;rintro e v7 ⟨⟨zo1,zc1,rfl,hsv7⟩,hbv7⟩;have hbrv7:Below wv.heap.size wv v7:=HBRv6.out.trans (hbv7.mono HBRv6.out.size);have Kv7:Hid (v7.cell? ⟨g,k*10+3,none⟩=some (.slice so x.src.length sc)/\v7.cell? ⟨g,k*10+8,none⟩=some (.slice zo x.cases.length zc)/\v7.cell? ⟨g,k*10+9,none⟩=some (.slice go2 x.segs.length gc2)):=zzH ⟨(hbrv7.cell (p:=⟨g,k*10+3,none⟩) (zb HG.out)).trans q3,(hbrv7.cell (p:=⟨g,k*10+8,none⟩) (zb HG.out)).trans q8,(hbrv7.cell (p:=⟨g,k*10+9,none⟩) (zb HG.out)).trans q9⟩;refine zzK3 hsv7 hbv7 hbrv7 fun HSv7 HBv7 HBRv7=>?_;clear hsv7 hbv7 hbrv7;refine hK.out _ _ ⟨trivial,Kv7.out⟩ ?_;clear hK KK
     try simp only [zzX0]
     refine zbb 17 fun KK hK=>?_
     go_simp;refine(zkm zgQ x.segs go2 gc2 _ (HXS.out.2.2.mono (Below.trans HBM2.out (HBRv7.out.mono HBM2.out.size)) fun _ _ h=>h) HXL.out.2.2).mono ?_;rintro e v8 ⟨⟨go21,gc21,rfl,hsv8⟩,hbv8⟩;have hbrv8:Below wv.heap.size wv v8:=HBRv7.out.trans (hbv8.mono HBRv7.out.size);have Kv8:Hid (v8.cell? ⟨g,k*10+3,none⟩=some (.slice so x.src.length sc)/\v8.cell? ⟨g,k*10+8,none⟩=some (.slice zo x.cases.length zc)/\v8.cell? ⟨g,k*10+9,none⟩=some (.slice go2 x.segs.length gc2)):=zzH ⟨(hbrv8.cell (p:=⟨g,k*10+3,none⟩) (zb HG.out)).trans q3,(hbrv8.cell (p:=⟨g,k*10+8,none⟩) (zb HG.out)).trans q8,(hbrv8.cell (p:=⟨g,k*10+9,none⟩) (zb HG.out)).trans q9⟩;refine zzK3 hsv8 hbv8 hbrv8 fun HSv8 HBv8 HBRv8=>?_;clear hsv8 hbv8 hbrv8;have hr8:=(HBRv8.out.block g (zb HG.out)).trans HG.out;have HR8:=zzH hr8;have y3:=Kv8.out.1;have y4:=Kv8.out.2.1;have y5:=Kv8.out.2.2;have z3:=zzq2 _ _ (k*10+3) _ _ hr8;have z4:=zzq2 _ _ (k*10+8) _ _ hr8;have z5:=zzq2 _ _ (k*10+9) _ _ hr8;clear hr8;refine hK.out _ _ ⟨trivial,Kv8.out⟩ ?_;clear hK KK
     try simp only [zzX0]
     refine ze 18 ⟨trivial,Kv8.out⟩ ?_;simp only [zzX0];refine ze 19 ⟨trivial,Kv8.out⟩ ?_;simp only [zzX0];refine zba 20 fun KK hK=>?_
     go_simp;refine hK.out _ _ trivial ?_;clear hK KK
     try simp only [zzX0]
     refine zba 21 fun KK hK=>?_
     go_simp;refine hK.out _ _ trivial ?_;clear hK KK
     try simp only [zzX0]
     refine zba 22 fun KK hK=>?_
     go_simp;refine hK.out _ _ trivial ?_;clear hK KK
     try simp only [zzX0]
     refine zba 23 fun KK hK=>?_
     go_simp;refine hK.out _ _ trivial ?_;clear hK KK
     try simp only [zzX0]
     refine zba 24 fun KK hK=>?_
     go_simp;refine hK.out _ _ trivial ?_;clear hK KK
     try simp only [zzX0]
     refine zba 25 fun KK hK=>?_
     go_simp;refine hK.out _ _ trivial ?_;clear hK KK
     try simp only [zzX0]
     refine zba 26 fun KK hK=>?_
     go_simp;refine hK.out _ _ trivial ?_;clear hK KK
     try simp only [zzX0]
     refine zbV (by kernel_rfl) ?_ _;generalize hw7:World.setCell _ _ _=w9
     have hst:=HL.out.step (so:=so1) (sc:=sc1) (zo:=zo1) (zc:=zc1) (go:=go21) (gc:=gc21) hlt (by have:=HM.out;have:=HSV.out;omega) HBRv8.out
      (by rw [<-HX.out];exact HSv6.out.kept (fun b _ b2=>((HBv7.out.trans (HBv8.out.mono HBv7.out.size)).block b b2)) (zzL _) (HBv7.out.trans (HBv8.out.mono HBv7.out.size)).size fun _ _ _ _ _ _ h=>h)
      (by rw [<-HX.out];exact HSv7.out.kept (fun b _ b2=>HBv8.out.block b b2) HBv6.out.size HBv8.out.size fun _ _ _ _ _ _ h=>h)
      (by rw [<-HX.out];exact HSv8.out.kept (fun b _ _=>rfl) (zzY HBv6.out.size HBv7.out.size) (zzL _) fun _ _ _ _ _ _ h=>h)
     rw [<-HX.out,hw7]at hst;have hoth: ∀b,b≠g->w9.heap[b]?=v8.heap[b]?:=fun b hb=>by rw [<-hw7];exact(zzq3 _ _ _ _ hb).trans ((zzq3 _ _ _ _ hb).trans (zzq3 _ _ _ _ hb))
     have hsz9:w9.heap.size=v8.heap.size:=by rw [<-hw7];simp [World.setCell]
     have hn7:=(hoth N (by omega)).trans ((HBRv8.out.block _ (zb HR.out)).trans HR.out);have hn8:=(hoth (N+1) (by omega)).trans ((HBRv8.out.block _ (zb HZ.out)).trans HZ.out);have hbw:Below N w w9:=by rw [<-hw7];exact(((HBN.out.trans (HBRv8.out.mono (by have:=zb HR.out;omega))).setCell (p:=⟨g,_,none⟩) (by show N<=g;omega) _).setCell (p:=⟨g,_,none⟩) (by show N<=g;omega) _).setCell (p:=⟨g,_,none⟩) (by show N<=g;omega) _
     have hkp: ∀b,N+2<=b->b<M3->w9.heap[b]?=wz.heap[b]?:=fun b b1 b2=>(hoth b (by omega)).trans ((HBRv8.out.block b (by have:=HM.out;have:=HSV.out;omega)).trans (HKP.out b b1 b2))
     refine zzK5 hn7 hn8 hst hbw hkp fun H7 H8 HST HBW HKK=>?_;have HSS:Hid (wz.heap.size<=w9.heap.size):=zzH (by rw [hsz9];exact zzY HSV.out HBRv8.out.size);clear hw7 hn7 hn8 hst hbw hkp hoth hsz9 Kv6 Kv7 Kv8 K1 hHeld y3 y4 y5 z3 z4 z5 q3 q8 q9 HSv6 HSv7 HSv8 HBv6 HBv7 HBv8 HBRv6 HBRv7 HBRv8 HR8;go_wp2_with fail;go_roundw
     case rel=>exact⟨k+1,by omega,by go_num,H7,H8,HST,HBW,HKK,HSS⟩
     case measure=>simp [intOf];omega
    ·have hkl:k=u.code.length:=by omega
     subst hkl;have hL:=HL.out.stop;have HLS:=zzH hL;clear hL HL;go_upto_region 14 with fail;rename_i K hK;refine wp_region_list ?_;refine wpList_load_row rfl 27 (.tmp 1) rfl N rfl 27 _ _ _ HR.out Tryz.underlying27 rfl (by kernel_rfl) ?_;refine wpList_store_row rfl 27 (.tmp 2) (.tmp 74) rfl (N+1) #[.string u.mdl,.int .i64 u.vsn,.slice lo1 u.lits.length lc1,.slice fo1 u.funcs.length fc1,.slice go1 u.funs.length gc1,.slice co1 u.code.length cc1] rfl rfl 27 _ HZ.out (by kernel_rfl) rfl (by simp [Value.oneCell']) ?_;refine wpList_nil ?_;refine hK _ _ ?_;refine wp_ret ?_;refine zzj (results_cell_row rfl _ _ (N+1) _ _ _ _ rfl (setRow_heap _ _ _ _ _ _ HZ.out) Tryz.underlying27 rfl (by kernel_rfl)) rfl ?_;have hrs:(wv.setRow (N+1) #[.string u.mdl,.int .i64 u.vsn,.slice lo1 u.lits.length lc1,.slice fo1 u.funcs.length fc1,.slice go1 u.funs.length gc1,.slice co1 u.code.length cc1]).heap.size=wv.heap.size:=by simp [World.setRow]
     have hro: ∀b,b≠N+1->(wv.setRow (N+1) #[.string u.mdl,.int .i64 u.vsn,.slice lo1 u.lits.length lc1,.slice fo1 u.funcs.length fc1,.slice go1 u.funs.length gc1,.slice co1 u.code.length cc1]).heap[b]?=wv.heap[b]?:=fun b hb=>setRow_other _ _ _ _ hb
     have hrb:Below N w (wv.setRow (N+1) #[.string u.mdl,.int .i64 u.vsn,.slice lo1 u.lits.length lc1,.slice fo1 u.funcs.length fc1,.slice go1 u.funs.length gc1,.slice co1 u.code.length cc1]):=below_setRow HBN.out (Nat.le_succ _) _;generalize wv.setRow (N+1) #[.string u.mdl,.int .i64 u.vsn,.slice lo1 u.lits.length lc1,.slice fo1 u.funcs.length fc1,.slice go1 u.funs.length gc1,.slice co1 u.code.length cc1]=wf at *;rw [HN.out];have hm:=HM.out;have hsv:=HSV.out;have hfar: ∀b,N+2<=b->b<M3->wf.heap[b]?=wz.heap[b]?:=fun b b1 b2=>(hro b (by omega)).trans (HKP.out b b1 b2)
     refine⟨⟨lo1,lc1,fo1,fc1,go1,gc1,co1,cc1,rfl,M1,M2,M3,by omega,hm.2.1,hm.2.2.1,by omega,?_,?_,?_,?_⟩,hrb⟩
     ·exact HL1.out.kept (fun b b1 b2=>hfar b b1 (by omega)) (by omega) (zzL _) fun a e cs t ha he hx=>hx.kept (fun b b1 b2=>hfar b (by omega) (by omega)) (zzL _) (zzL _)
     ·exact HF1.out.kept (fun b b1 b2=>hfar b (by omega) (by omega)) (zzL _) (zzL _) fun _ _ _ _ _ _ h=>h
     ·exact HG1.out.kept (fun b b1 b2=>hfar b (by omega) b2) (zzL _) (zzL _) fun _ _ _ _ _ _ h=>h
     ·exact HLS.out.kept (fun b b1 b2=>hro b (by omega)) (zzL _) (by omega) fun a e cs t ha he hx=>hx.kept (fun b b1 b2=>hro b (by omega)) (zzL _) (zzL _)
structure KeepR (lo hi:Nat) (w w':World):Prop where
 os:w'.os=w.os
 tape:w'.tape=w.tape
 output:w'.output=w.output
 size:w.heap.size<=w'.heap.size
 block: ∀b,b<w.heap.size->(b<lo\/hi<=b)->w'.heap[b]?=w.heap[b]?
 shp: ∀(b:Nat) (arr:Array Value) (T:TypeId) (fr:Nat × Nat),w.heap[b]?=some (Obj.cells arr T fr)-> ∃arr':Array Value,w'.heap[b]?=some (Obj.cells arr' T fr)/\arr'.size=arr.size
theorem KeepR.refl (lo hi:Nat) (w:World):KeepR lo hi w w:=⟨rfl,rfl,rfl,zzL _,fun _ _ _=>rfl,fun _ arr _ _ h=>⟨arr,h,rfl⟩⟩
theorem KeepR.trans {lo hi:Nat} {a b c:World} (h:KeepR lo hi a b) (h':KeepR lo hi b c):KeepR lo hi a c:=
 ⟨h'.os.trans h.os,h'.tape.trans h.tape,h'.output.trans h.output,zzY h.size h'.size,fun k hk hn=>(h'.block k (zzW hk h.size) hn).trans (h.block k hk hn),
  fun k arr T fr hk=>by
  obtain⟨a1,e1,s1⟩:=h.shp k arr T fr hk;obtain⟨a2,e2,s2⟩:=h'.shp k a1 T fr e1;exact⟨a2,e2,s2.trans s1⟩⟩
theorem KeepR.widen {lo hi lo' hi':Nat} {a b:World} (h:KeepR lo hi a b) (h1:lo'<=lo) (h2:hi<=hi'):KeepR lo' hi' a b:=
 ⟨h.os,h.tape,h.output,h.size,fun k hk hn=>h.block k hk (by omega),h.shp⟩
theorem KeepR.setCell (lo hi:Nat) {w:World} {g o:Nat} (hg:lo<=g/\g<hi) (v:Value):KeepR lo hi w (w.setCell ⟨g,o,none⟩ v):=
 ⟨rfl,rfl,rfl,by simp [World.setCell],fun k _ hn=>zzq3 _ _ _ _ (by show k≠g;omega),fun k arr T fr hk=>by
  by_cases e:k=g
  ·subst e
   exact⟨_,setCell_eq_setRow w k o arr T fr v hk▸setRow_heap w k arr _ T fr hk,by simp⟩
  ·exact⟨arr,(zzq3 _ _ _ _ e).trans hk,rfl⟩⟩
theorem KeepR.below {lo hi:Nat} {w w':World} (h:Below w.heap.size w w'):KeepR lo hi w w':=
 ⟨h.os,h.tape,h.output,h.size,fun k hk _=>h.block k hk,fun k arr T fr hk=>⟨arr,(h.block k (zb hk)).trans hk,rfl⟩⟩
theorem KeepR.setL (lo hi:Nat) {g:Nat} (hg:lo<=g/\g<hi): ∀(l:List Value) (o:Nat) (w:World),KeepR lo hi w (setL g l o w)
 |[],_,w=>KeepR.refl lo hi w
 |v::l,o,w=>(KeepR.setCell lo hi hg v).trans (KeepR.setL lo hi hg l (o+1) _)
theorem SlS.apart {α:Type} {w w':World} {R R':Nat->Nat->List Value->α->Prop} {T:TypeId} {size lo hi lo' hi':Nat} {ao:zzA} {l:List α} (h:SlS w R T size lo hi ao l) (hk:KeepR lo' hi' w w') (hs:hi<=w.heap.size) (hd:hi<=lo'\/hi'<=lo)
  (hR: ∀a e cs t,lo<=a->e<=hi->R a e cs t->R' a e cs t):SlS w' R' T size lo hi ao l:=h.kept (fun b b1 b2=>hk.block b (by omega) (by omega)) (zzL _) (zzL _) hR
def zgA (f:Nat):Prop:= ∀(l:List Tm) (ao:Option Addr) (c lo hi:Nat) (w:World),SlS w (SepT w f) 116 9 lo hi ao l->hi<=w.heap.size->l.length<=maxLen ->
 Calls Tryz.prog 47 #[.slice ao l.length c] w fun e w'=>e= .returned (.tuple #[])/\KeepR lo hi w w'
theorem zgo (f:Nat) (HS: ∀g,f=g+1->zgA g):zgA f:=by
 intro l ao c lo hi w h hhi hl;have HC:=zzH HS;clear HS;unfold maxLen at hl;rcases h with rfl|⟨b,arr,a,e,rfl,hb1,hb2,hg,hv,hx⟩
 ·go_in
  go_wp2_with fail;go_loop [2] (fun i=>i= .int .i64 0) (fun _=>0)
  case atStart=>rfl
  case round=>
   subst hrel;go_wp2_with fail;exact⟨rfl,_,results_none rfl _ _ _,rfl,KeepR.refl _ _ _⟩
 refine zzK3 hg hv hx fun HG HV HX=>?_;have HBB:Hid (lo<=b/\b<hi):=zzH ⟨hb1,hb2⟩;have HHI:=zzH hhi;clear hg hv hx hb1 hb2 hhi;go_in;go_wp2_with fail;go_loopw [2] (fun iv wr=> ∃k:Nat,k<=l.length/\iv= .int .i64 k/\Hid (∃arr',wr.heap[b]?=some (.cells arr' 116 (0,0))/\ ∀j i,k<=j->j<l.length->i<9->arr'[j*9+i]?=arr[j*9+i]?)/\Hid (KeepR lo hi w wr)/\Hid (∀j q,k<=j->j<l.length->a j<=q->q<e j->wr.heap[q]?=w.heap[q]?)) (fun i _=>l.length-(intOf i).toNat)
 case atStart=>exact⟨0,zzZ _,rfl,zzH ⟨arr,HG.out,fun _ _ _ _ _=>rfl⟩,zzH (KeepR.refl _ _ _),zzH fun _ _ _ _ _ _=>rfl⟩
 case round=>
  obtain⟨k,hk,rfl,HA,HK,HP⟩:=hrel;rename World=>wr
  by_cases hlt:k<l.length
  ·obtain⟨arr',ha1,ha2⟩:=HA.out
   obtain⟨cs,k1,k2,k3⟩:=HX.out k hlt;obtain⟨v1,v2,v3,v4,v5⟩:=HV.out k hlt
   cases f with
   |zero=>exact k3.elim
   |succ f'=>
    obtain⟨⟨so,c',rfl,hs⟩,ho⟩:=k3;obtain⟨t,ht⟩: ∃t,t=l[k]:=⟨_,rfl⟩;rw [<-ht]at k2 hs ho;have hq: ∀i,i<9->wr.cell? ⟨b,k*9+i,none⟩=(zca t so c')[i]?:=fun i hi=>by rw [zzq0 _ _ _ _ _ _ ha1,ha2 k i (Nat.le_refl _) hlt hi,k2 i hi]
    have hsz:k*9+9<=arr'.size:=by
     have h1:=ha2 k 8 (zzL _) hlt (by decide);rw [k2 8 (by decide)]at h1;have:=(Array.getElem?_eq_some_iff.1 (h1.trans rfl)).1;omega
    have q6:wr.cell? ⟨b,k*9+6,none⟩=some (.slice so t.items.length c'):=hq 6 (by decide);have hs':SlS wr (SepT wr f') 116 9 (a k) (e k) so t.items:=hs.kept (fun q q1 q2=>HP.out k q (zzL _) hlt q1 q2) (zzL _) (zzL _) fun a' e' cs t ha he hx=>hx.kept (fun q q1 q2=>HP.out k q (zzL _) hlt (by omega) (by omega)) (zzL _) (zzL _)
    have hcall:=HC.out f' rfl t.items so c' (a k) (e k) wr hs' (zzY v3 (zzY HHI.out HK.out.size)) ho.2.2.2.2.2.2.1;refine zzK5 hcall ha1 ha2 hq hsz fun HCL HA1 HA2 HQ HSZ=>?_;have HBK:Hid (b<a k\/e k<=b):=zzH (v4 b rfl);have HVV:Hid (lo<=a k/\e k<=hi):=zzH ⟨v1,v3⟩;clear hcall ha1 ha2 hq hsz hs hs' ho HA k2 v1 v2 v3 v4 v5 ht k1;go_upto_region 4 with(go_at_call 47;refine HCL.out.mono ?_;rintro e2 w2 ⟨rfl,hk2⟩);have hb2':=(hk2.block b (zb HA1.out) HBK.out).trans HA1.out;have x0:w2.cell? ⟨b,k*9,none⟩=some (.int .i64 t.kind):=(World.cell?_of_block (w:=wr) (hk2.block b (zb HA1.out) HBK.out)).trans (HQ.out 0 (by decide));have x1:w2.cell? ⟨b,k*9+1,none⟩=some (.int .i64 t.int):=(World.cell?_of_block (w:=wr) (hk2.block b (zb HA1.out) HBK.out)).trans (HQ.out 1 (by decide));have x2:w2.cell? ⟨b,k*9+2,none⟩=some (.int .i64 t.gen):=(World.cell?_of_block (w:=wr) (hk2.block b (zb HA1.out) HBK.out)).trans (HQ.out 2 (by decide));have x3:w2.cell? ⟨b,k*9+3,none⟩=some (.string t.name):=(World.cell?_of_block (w:=wr) (hk2.block b (zb HA1.out) HBK.out)).trans (HQ.out 3 (by decide));have x4:w2.cell? ⟨b,k*9+4,none⟩=some (.string t.func):=(World.cell?_of_block (w:=wr) (hk2.block b (zb HA1.out) HBK.out)).trans (HQ.out 4 (by decide));have x5:w2.cell? ⟨b,k*9+5,none⟩=some (.int .i64 t.arity):=(World.cell?_of_block (w:=wr) (hk2.block b (zb HA1.out) HBK.out)).trans (HQ.out 5 (by decide));have x6:w2.cell? ⟨b,k*9+6,none⟩=some ((.slice so t.items.length c')):=(World.cell?_of_block (w:=wr) (hk2.block b (zb HA1.out) HBK.out)).trans (HQ.out 6 (by decide));have x7:w2.cell? ⟨b,k*9+7,none⟩=some (.string t.bytes):=(World.cell?_of_block (w:=wr) (hk2.block b (zb HA1.out) HBK.out)).trans (HQ.out 7 (by decide));have x8:w2.cell? ⟨b,k*9+8,none⟩=some (.int .i64 t.bits):=(World.cell?_of_block (w:=wr) (hk2.block b (zb HA1.out) HBK.out)).trans (HQ.out 8 (by decide));have z0:=zzq2 _ _ (k*9) _ _ hb2';have z1:=zzq2 _ _ (k*9+1) _ _ hb2';have z2:=zzq2 _ _ (k*9+2) _ _ hb2';have z3:=zzq2 _ _ (k*9+3) _ _ hb2';have z4:=zzq2 _ _ (k*9+4) _ _ hb2';have z5:=zzq2 _ _ (k*9+5) _ _ hb2';have z6:=zzq2 _ _ (k*9+6) _ _ hb2';have z7:=zzq2 _ _ (k*9+7) _ _ hb2';have z8:=zzq2 _ _ (k*9+8) _ _ hb2';have HB2:=zzH hb2';have HK2:=zzH hk2;clear hb2' hk2;go_upto_region 2 with fail;generalize hw7:World.setCell _ _ _=w7;have hw7':w7=setL b [.int .i64 (-9),.int .i64 0,.int .i64 0,.string ⟨#[]⟩,.string ⟨#[]⟩,.int .i64 0,.slice none 0 0,.string ⟨#[]⟩,.int .i64 0] (k*9) w2:=hw7.symm;obtain⟨arr7,e7,e8⟩:=zdM [.int .i64 (-9),.int .i64 0,.int .i64 0,.string ⟨#[]⟩,.string ⟨#[]⟩,.int .i64 0,.slice none 0 0,.string ⟨#[]⟩,.int .i64 0] (k*9) w2 _ HB2.out HSZ.out;rw [<-hw7']at e7;have hk7:KeepR lo hi w w7:=by rw [hw7'];exact(HK.out.trans (HK2.out.widen HVV.out.1 HVV.out.2)).trans (KeepR.setL lo hi HBB.out _ _ _)
    have hp7: ∀j q,k+1<=j->j<l.length->a j<=q->q<e j->w7.heap[q]?=w.heap[q]?:=fun j q hj hjl q1 q2=>by
     obtain⟨y1,y2,y3,y4,y5⟩:=HV.out j hjl;have hqb:q≠b:=by rcases y4 b rfl with h|h<;>omega
     rw [hw7',zcA hqb];exact(HK2.out.block q (by have:=HK.out.size;have:=HHI.out;omega) (.inr (by have:=y5 k (by omega);omega))).trans (HP.out j q (by omega) hjl q1 q2)
    have HA7:Hid (∃arr',w7.heap[b]?=some (.cells arr' 116 (0,0))/\ ∀j i,k+1<=j->j<l.length->i<9->arr'[j*9+i]?=arr[j*9+i]?):=zzH ⟨arr7,e7,fun j i hj hjl hi=>by
     rw [e8,if_neg (by simp only [List.length_cons,List.length_nil];omega)];exact HA2.out j i (by omega) hjl hi⟩
    have HK7:=zzH hk7;have HP7:=zzH hp7;clear hw7 hw7' e7 e8 hk7 hp7 x0 x1 x2 x3 x4 x5 x6 x7 x8 z0 z1 z2 z3 z4 z5 z6 z7 z8 q6;go_wp2_with fail;go_roundw
    case rel=>exact⟨k+1,by omega,by go_num,HA7,HK7,HP7⟩
    case measure=>simp [intOf];omega
  ·have hkl:k=l.length:=by omega
   subst hkl;go_wp2_with fail;exact⟨rfl,_,results_none rfl _ _ _,rfl,HK.out⟩
theorem zf3: ∀f,zgA f
 |0=>zgo 0 (fun g h=>by cases h)
 |f+1=>zgo (f+1) (fun g h=>by cases h;exact zf3 f)
open Go.RowKit Go.Shelf
attribute [local go_sem] Oper.semAt_some
theorem zhS (F:Fence) (n:Nat) (hF:F.fn 139) (hro:F.round=none) (b o i:Nat) (w:World):
  CallsIn F n Tryz.prog 139 #[.pointer (some ⟨b,o,none⟩),.int .i64 i] w fun e w'=>e= .returned (.func (.func 161) #[] #[.pointer (some ⟨w.heap.size,0,none⟩),.pointer (some ⟨w.heap.size+1,0,none⟩)])/\w'=(w.alloc (.cells #[.pointer (some ⟨b,o,none⟩)] 95)).alloc (.cells #[.int .i64 i] 3):=by
 refine callsIn_of_wp Tryz.func139 rfl hF ?_ hro;simp only [Tryz.ntmps139,List.size_toArray,List.length_cons,List.length_nil,Nat.reduceAdd,Nat.reduceSub,Array.replicate_succ,Array.replicate_zero,List.push_toArray,List.append_toArray,List.nil_append,List.cons_append]
 gi_wp2
 go_ret;exact⟨rfl,rfl⟩
theorem zfl (F:Fence) (n:Nat) (hF:F.fn 161) (hro:F.round=none) (hn:1<=n) (Bp Bi b o i:Nat) (x:RIns) (co:zzA) (cc:Nat) (w0 w:World) (hcl:x.cases.length<=1000) (hi:i<=1000000)
  (ht:TgAt w0 w Bp b o x co cc) (hbi:Boxed w Bi 3 (.int .i64 i)) (h0:w0.heap.size<=w.heap.size):
  SeqStopsK F n Tryz.prog 161 #[.pointer (some ⟨Bp,0,none⟩),.pointer (some ⟨Bi,0,none⟩)] (fun y:Int=>#[.int .i64 y]) (KpT w0.heap.size Bp) (fun ys=>ys=zbg i x) (fun _=>True) 1100 w:=fun l J Jx W hW hJ hJx hY hj0=>by
 have hk:KpT w0.heap.size Bp w W:=⟨hW.mono h0,fun v hv=>(hW.block Bp hv.lt).trans hv⟩;exact zg7 F n hF hro hn l Bp Bi b o i x co cc w0 hcl hi J Jx (fun s A o' h=>hJ s A _ none h (World.grownBy_alloc A o' none) (fun r e=>by cases e)) hY W (ht.keep hk) (show Boxed W Bi 3 (.int .i64 i)from(hW.block Bi hbi.lt).trans hbi).cell hj0
theorem IntsAt.putObj {w:World} {ao:zzA} {l:List Int} {D:Nat} {ds:Option (List Deferred)} {o':Obj} (h:IntsAt w ao l) (hD:w.heap[D]?=some (.deferred ds)):IntsAt (w.putObj D o') ao l:=
 h.imp id fun⟨b,off,cs,fr,e,hb,hr⟩=>⟨b,off,cs,fr,e,(World.putObj_heap_other (fun h=>by subst h;rw [hD]at hb;cases hb)).trans hb,hr⟩
def inR (m:Nat) (l:List Int):List Int:=l.filter fun k=>decide (0<=k)&&decide (k<m)
theorem zls (m:Nat) (l:List Int) {y:Int} (h0:0<=y) (h1:y<m):inR m (l++ [y])=inR m l++ [y]:=by unfold inR;simp [h0,h1]
theorem zgw (m:Nat) (l:List Int) {y:Int} (h: ¬(0<=y/\y<m)):inR m (l++ [y])=inR m l:=by
 unfold inR;rw [List.filter_append,List.filter_cons_of_neg (by simpa using h)];simp
theorem zdo (d:Array Int): ∀(m:Nat) (k:Int),k∈Lib.compactUpTo d m↔ ∃j,j<m/\d[j]! =k
 |0,k=>by simp [Lib.compactUpTo]
 |m+1,k=>by
  rw [Lib.compactUpTo_succ,List.mem_append,zdo d m k];constructor
  ·rintro(⟨j,h1,h2⟩|h)
   ·exact⟨j,by omega,h2⟩
   ·split at h
    ·exact⟨m,Nat.lt_succ_self m,(zzP.1 h).symm⟩
    ·cases h
  ·rintro⟨j,h1,h2⟩
   by_cases hj:j<m
   ·exact .inl ⟨j,hj,h2⟩
   ·obtain rfl:j=m:=by omega
    by_cases hk:Lib.keeps d j=true
    ·rw [if_pos hk];exact .inr (zzP.2 h2.symm)
    ·refine .inl ⟨j-1,?_,?_⟩
     ·have:j≠0:=fun e=>by subst e;exact hk (by simp [Lib.keeps])
      omega
     ·have:d[j]! =d[j-1]!:=Classical.byContradiction fun hn=>hk (Lib.keeps_pos hn)
      rw [<-this,h2]
theorem zha (zs:List Int) (k:Int):k∈Lib.compact zs↔k∈zs:=by
 unfold Lib.compact;rw [zdo];constructor
 ·rintro⟨j,h1,h2⟩
  rw [<-h2];simp [h1]
 ·intro h
  obtain⟨j,hj,rfl⟩:=List.getElem_of_mem h;exact⟨j,hj,by simp [hj]⟩
theorem zfK (w:World):Sort.grow w #[]=w:=by cases w;simp [Sort.grow]
theorem zgF {w:World} {g q:Nat} {cur:Array Value} {fr:Nat × Nat} {zs L:List Int} (hb:w.heap[g]?=some (.cells cur 3 fr)) (hl:L.length=zs.length) (h:zs.length<=cur.size) {r:List Int} (hr:r.length<=L.length) (he: ∀j (hj:j<r.length) (hj':j<L.length),L[j]=r[j]):
  IntsAt (Sort.putRow (Value.int .i64) (Sort.ahead w q) g 0 L.toArray) (some ⟨g,0,none⟩) r:=by
 have h1:=heap_sortedI (n:=q) (os:=#[]) L.toArray hb;rw [zfK]at h1;refine .inr ⟨g,0,_,fr,rfl,h1,fun j hj=>?_⟩;have h2:=take_putCellsI cur L (by omega);have h3:((Sort.putCells (Value.int .i64) 0 L.toArray cur).toList.take L.length)[j]?=(L.map (Value.int .i64))[j]?:=by rw [h2]
 rw [List.getElem?_take_of_lt (by omega),Array.getElem?_toList,List.getElem?_map,zzq4 (show j<L.length by omega)]at h3;rw [Nat.zero_add,h3];simp only [Option.map_some];rw [he j hj (by omega)]
theorem zjN (cb cf m cap i:Nat) (x:RIns) (so co go:zzA) (sc cc gc:Nat) (w:World) (hi:IBox w cb (cf+i*10) x so co go sc cc gc) (him:i<m) (hm:m<=1000000) (hcl:x.cases.length<=1000):
  Calls Tryz.prog 99 #[.slice (some ⟨cb,cf,none⟩) m cap,.int .i64 i] w fun e w'=>(∃ks ao c,e= .returned (.slice ao ks.length c)/\IntsAt w' ao ks/\ze1 m i x ks/\ks.length<=1100)/\Below w.heap.size w w':=by
 obtain⟨i0,hinf,hz0,hz1,hz2⟩:=info_parts zeq;have hI0:(0:Int)<=(i:Int):=by omega
 have hI1:(i:Int)<(m:Int):=by omega
 have t0:decide ((i:Int)<0)=false:=zzD (by omega);have t1:decide (m<=i)=false:=zzD (by omega);have HI:=zzH hi;clear hi;have bL0:=Boxed.new w 25 (.slice (some ⟨cb,cf,none⟩) m cap);have bO0:=Boxed.new (w.alloc (.cells #[.slice (some ⟨cb,cf,none⟩) m cap] 25)) 38 (.slice none 0 0);have bP0:=Boxed.new ((w.alloc (.cells #[.slice (some ⟨cb,cf,none⟩) m cap] 25)).alloc (.cells #[.slice none 0 0] 38)) 95 (.pointer (some ⟨cb,cf+i*10,none⟩));have bI0:=Boxed.new (((w.alloc (.cells #[.slice (some ⟨cb,cf,none⟩) m cap] 25)).alloc (.cells #[.slice none 0 0] 38)).alloc (.cells #[.pointer (some ⟨cb,cf+i*10,none⟩)] 95)) 3 (.int .i64 i)
 have hB0:Below w.heap.size w ((((w.alloc (.cells #[.slice (some ⟨cb,cf,none⟩) m cap] 25)).alloc (.cells #[.slice none 0 0] 38)).alloc (.cells #[.pointer (some ⟨cb,cf+i*10,none⟩)] 95)).alloc (.cells #[.int .i64 i] 3)):=
  ((((zzR _ w).alloc (zzL _) _).alloc (by simp) _).alloc (by simp;omega) _).alloc (by simp;omega) _
 have bL:=((bL0.alloc (.cells #[.slice none 0 0] 38)).alloc (.cells #[.pointer (some ⟨cb,cf+i*10,none⟩)] 95)).alloc (.cells #[.int .i64 i] 3);have bO:=(bO0.alloc (.cells #[.pointer (some ⟨cb,cf+i*10,none⟩)] 95)).alloc (.cells #[.int .i64 i] 3);have bP:=bP0.alloc (.cells #[.int .i64 i] 3);clear bL0 bO0 bP0;simp only [World.size_alloc]at bO bP bI0;refine zzK5 bL bO bP bI0 hB0 fun HBL HBO HBP HBI HB0=>?_;clear bL bO bP bI0 hB0;refine(callsIn_wide (n:=6)).1 ?_;refine callsIn_of_wp_marks Tryz.func99 rfl trivial ?_ (by rfl);simp only [Tryz.ntmps99,List.size_toArray,List.length_cons,List.length_nil,Nat.reduceAdd,Nat.reduceSub,Array.replicate_succ,Array.replicate_zero,List.push_toArray,List.append_toArray,List.nil_append,List.cons_append]
 gi_wp2_with (refine⟨trivial,?_⟩;gi_at_call 139;refine(zhS Fence.wide 5 trivial rfl _ _ _ _).mono ?_;rintro e w' ⟨rfl,rfl⟩)
 generalize(((w.alloc (.cells #[.slice (some ⟨cb,cf,none⟩) m cap] 25)).alloc (.cells #[.slice none 0 0] 38)).alloc (.cells #[.pointer (some ⟨cb,cf+i*10,none⟩)] 95)).alloc (.cells #[.int .i64 i] 3)=W0 at *;have hsz:w.heap.size<=W0.heap.size:=HB0.out.size;have hTg:TgAt w W0 (w.heap.size+1+1) cb (cf+i*10) x co cc:=⟨HB0.out,HBP.out,HI.out.lt,HI.out.c0,HI.out.c4,HI.out.c8,HI.out.cases⟩
 have hIO:OwnFrom W0.heap.size (fun(pre:List Int) W=>((∃v,Boxed W (w.heap.size+1) 38 v/\W.ownsRow w.heap.size 3 1 v (inR m pre).length ((inR m pre).map (Value.int .i64))/\True)/\Boxed W w.heap.size 25 (.slice (some ⟨cb,cf,none⟩) m cap))/\Below w.heap.size w W):=
  OwnFrom.and (OwnFrom.and (Own.from (holdsRow_own w.heap.size (w.heap.size+1) 38 3 1 (fun pre=>(inR m pre).length) (fun pre=>(inR m pre).map (Value.int .i64)) (fun _ _=>True)) _) (Own.from (boxed_own w.heap.size 25 (fun _=>.slice (some ⟨cb,cf,none⟩) m cap)) _)) (ownFrom_below (zzL _) hsz)
 have hKb: ∀(W:World) (l:Nat) (o o':Obj),W0.heap.size<=l->W.heap[l]?=some o->o.isCells=false->o.isWalk=false->KpT w.heap.size (w.heap.size+1+1) W (W.putObj l o'):=fun W l o o' hl h hc hk=>
  ⟨belowK_b (w:=W0) hsz W l o o' hl h hc hk,fun v hv=>(World.putObj_heap_other (fun e=>by
   rw [<-e]at h;rw [show W.heap[w.heap.size+1+1]?=_ from hv]at h
   injection h with h;rw [<-h]at hc;cases hc)).trans hv⟩
 have htl:(zbg i x).length<=1002:=by
  unfold zbg;rw [zzq16,zzq16];have h1:(if zbi x.op=true then [(i:Int)+1]else []).length<=1:=by split<;>simp
  have h2:(if toB x.op=true then [x.to]else []).length<=1:=by split<;>simp
  have h3:(if x.op=12 then x.cases.map RCase.to else []).length<=1000:=by split<;>simp;omega
  omega
 have HTL:=zzH htl;clear htl t0 t1
 refine wpIn_rangeFunc_ownG (w0:=W0) (F:=Fence.wide) rfl (by decide) (gf:=161) (lb:=#[.pointer (some ⟨w.heap.size+1+1,0,none⟩),.pointer (some ⟨w.heap.size+1+1+1,0,none⟩)]) rfl trivial (enters_of Tryz.func161 (by kernel_rfl) rfl)
  (zfl Fence.wide 5 trivial rfl (by decide) (w.heap.size+1+1) (w.heap.size+1+1+1) cb (cf+i*10) i x co cc w W0 hcl (by omega) hTg HBI.out hsz) (fun h k=>h.trans k) hKb (zzR _ _) (fun _=>rfl)
  (fun pre W=>((∃v,Boxed W (w.heap.size+1) 38 v/\W.ownsRow w.heap.size 3 1 v (inR m pre).length ((inR m pre).map (Value.int .i64))/\True)/\Boxed W w.heap.size 25 (.slice (some ⟨cb,cf,none⟩) m cap))/\Below w.heap.size w W)
  (fun _ _ _=>False) hIO (fun _ _ _ _ _ hs _ _=>hs)
  ⟨⟨⟨_,HBO.out,World.ownsRow_nil _ _ _ _,trivial⟩,HBL.out⟩,HB0.out⟩
  (fun y=>{tmps:=#[.slice (some ⟨cb,cf,none⟩) m cap,.int .i64 i,.pointer (some ⟨w.heap.size,0,none⟩),undef,.slice none 0 0,.pointer (some ⟨w.heap.size+1,0,none⟩),.int .i64 y,.int .i64 i,.bool false,.bool false,.int .i64 i,.slice (some ⟨cb,cf,none⟩) m cap,.int .i64 m,.bool false,.bool false,
   .slice (some ⟨cb,cf,none⟩) m cap,.int .i64 i,.pointer (some ⟨cb,cf+i*10,none⟩),.int .i64 i,.func (.func 161) #[] #[.pointer (some ⟨w.heap.size+1+1,0,none⟩),.pointer (some ⟨w.heap.size+1+1+1,0,none⟩)],.int .i64 y,
   undef,undef,undef,undef,undef,undef,undef,undef,undef,undef,undef,undef,undef,undef,undef,undef],defers:=[]}) ?assign ?body ?done ?stop
 case assign=>
  intro l y W K hK
  gi_wp2
  exact hK
 case body=>
  rintro l pre y W ⟨⟨⟨v,hv,hrow,-⟩,hL⟩,hB⟩ hlt;have hc:=hv.cell;have hcL:=hL.cell;have hpl:(inR m pre).length<=pre.length:=List.length_filter_le _ _;clear hIO hKb hTg;by_cases hy0:0<=y
  ·have u0:decide (0<=y)=true:=zzT hy0
   by_cases hy1:y<m
   ·have u1:decide (y<(m:Int))=true:=zzT hy1
    have hR:=zls m pre hy0 hy1;have HR:=zzH hR;clear hR
    gi_wp2_with (gi_at_builtin;refine wpListIn_append_own _ rfl _ _ 38 rfl w.heap.size 3 i0 (.int .i64 0) 1 8 Tryz.underlying38 hinf hz0 hz1 hz2 rfl (by decide) _ _ _ rfl (hrow.alloc _) ⟨W.heap.size,0,none⟩ 1 1 [.int .i64 y] rfl rfl (cell_one_new _ _ _) (by simp [Value.oneCell']) (by unfold maxLen;omega) (by omega) (by have:=hB.size;simp;omega) ?_;intro v' w1 hown' hgrow _;obtain⟨g',cap',rfl⟩:=ownsRow_succ hown';obtain⟨hv1,hv2,hr2,hk2,hb2⟩:=hv.appended (by decide) hrow hB.size (Nat.le_succ _) hown' hgrow;have hc1:=hv1.cell;have hf1:=hv1.frozen)
    have hkeep: ∀(B:Nat) (T:TypeId) (u:Value),T≠3->B≠w.heap.size+1->Boxed W B T u->Boxed (w1.setCell ⟨w.heap.size+1,0,none⟩ (.slice (some ⟨g',0,none⟩) ((inR m pre).length+1) cap')) B T u:=fun B T u hT hne hu=>
     ((hu.alloc _).kept hgrow (hu.not_row hT hrow)).kept (grownBy_setCell' w1 (w.heap.size+1) _) (fun e=>hne (by cases e;rfl))
    exact⟨hk2.from _,⟨hb2,fun u hu=>hkeep _ _ u (by decide) (by omega) hu⟩,⟨⟨_,hv2,by rw [HR.out,zzq16,List.map_append];exact hr2,trivial⟩,hkeep _ _ _ (by decide) (by omega) hL⟩,hB.trans hb2⟩
   ·have u1:decide (y<(m:Int))=false:=zzD hy1
    have HR:=zzH (zgw m pre (fun h=>hy1 h.2));exact zz101
  ·have u0:decide (0<=y)=false:=zzD hy0
   have HR:=zzH (zgw m pre (fun h=>hy0 h.1));exact zz101
 case done=>
  rintro D ys W hD rfl ⟨⟨⟨v,hv,hrow,-⟩,hL⟩,hB⟩ hK
  have hsu: ∀zs:List Int,(∀k,k∈zs↔k∈inR m (zbg i x))->ze1 m i x zs:=fun zs h k=>by
   rw [h k];unfold inR;rw [List.mem_filter,zzq6,zzq9,zzq9]
  have hsl:(inR m (zbg i x)).length<=1002:=zzY (List.length_filter_le _ _) HTL.out;have HSU:=zzH hsu;generalize inR m (zbg i x)=S at *;have hc:=hv.cell;have hnot:=hv.not_row (by decide) hrow;rcases hrow.2 with⟨rfl,h0⟩|⟨g,cp,cur,rfl,hbase,hgb,h1,h2,h3,h4⟩
  ·obtain rfl:S= []:=zzQ h0
   gi_wp2_with (first|(refine⟨trivial,?_⟩;gi_at_call 140;refine(callsIn_wide.2 (Tryz.slices_Sort_int_none _ _ _)).mono ?_;rintro e w1 ⟨rfl,rfl⟩)|(refine⟨trivial,?_⟩;gi_at_call 141;refine(callsIn_wide.2 (Tryz.slices_Compact_int_empty _ _ _)).mono ?_;rintro e w1 ⟨rfl,rfl⟩))
   refine⟨by simp,.inl ⟨_,_,rfl,run_takeDeferred hK,?_⟩⟩;exact⟨_,results_tmp rfl _ _ _,⟨[],_,_,rfl,.inl rfl,HSU.out [] (fun k=>Iff.rfl),by decide⟩,hB.trans (belowK_b (w:=w) (zzL _) _ D _ _ (by omega) hK rfl rfl)⟩
  ·have hgl:g<W.heap.size:=(Array.getElem?_eq_some_iff.1 hgb).1
   have hso:=Tryz.slices_Sort_int g 0 cp S W (holds_of_blockI hgb (by simpa using h4)) hgl (by omega);obtain⟨T,hT⟩: ∃T,T=S.mergeSort (fun x y=>decide (x<=y)):=⟨_,rfl⟩;rw [<-hT]at hso;have hTl:T.length=S.length:=by rw [hT,List.length_mergeSort]
   have hTm: ∀k,k∈T↔k∈S:=fun k=>by rw [hT];exact List.mem_mergeSort
   have hso2:Calls Tryz.prog 140 #[.slice (some ⟨g,0,none⟩) S.length cp] W fun e w1=>e= .returned (.tuple #[])/\ ∃cur1,w1.heap[g]?=some (.cells cur1 3 (0,0))/\cur1.toList.take T.length=T.map (Value.int .i64)/\cur1.size=cur.size/\W.grownBy w1 (some g):=
    hso.mono fun e w1 ⟨he,nn,os,hw⟩=>by
     subst hw;exact⟨he,_,heap_sortedI _ hgb,take_putCellsI cur T (by rw [hTl];omega),by simp [Sort.putCells],grownBy_sortedI _⟩
   refine zzK3 hso2 hTm hTl fun HSO HTm HTl=>?_;clear hso hso2 hT hTm hTl
   gi_wp2_with (refine⟨trivial,?_⟩;gi_at_call 140;refine(callsIn_wide.2 HSO.out).mono ?_;rintro e W1 ⟨rfl,cur1,hrow1,h41,hcs,hgr⟩;have hc1:=(hv.kept hgr (fun e=>hnot (by rw [e];rfl))).cell)
   have hK1:W1.heap[D]?=some (.deferred (some [])):=(hgr.block D (Array.getElem?_eq_some_iff.1 hK).1 (fun e=>by
    have:g=D:=by simpa using e.symm
    rw [this,hK]at hgb;cases hgb)).trans hK
   have hB1:RowKit.Below w.heap.size w W1:=hB.grown hgr hB.size (fun j hj=>by cases hj;exact hbase);have hco:=Tryz.slices_Compact_int g 0 cp T W1 (holds_of_blockI hrow1 h41) (by rw [HTl.out];omega) (by rw [HTl.out];exact h1);rw [HTl.out]at hco;have HCO:=zzH hco;have hgl1:=(Array.getElem?_eq_some_iff.1 hrow1).1;clear hco hgr hgl
   gi_wp2_with (refine⟨trivial,?_⟩;gi_at_call 141;refine(callsIn_wide.2 HCO.out).mono ?_;rintro e w2 ⟨rfl,q,rfl⟩)
   have hcl2:(Lib.compact T).length<=T.length:=Lib.compact_length_le T
   have hLl:(Lib.compact T++List.replicate (S.length-(Lib.compact T).length) 0).length=T.length:=by
    have:=HTl.out;rw [zzq16,List.length_replicate];omega
   have hints:=zgF (q:=q) hrow1 hLl (by rw [hcs,HTl.out];omega) (r:=Lib.compact T) (by rw [hLl];exact hcl2) (fun j hj hj'=>by rw [List.getElem_append_left hj]);have hgr2:=grownBy_sortedI (n:=q) (os:=#[]) (w:=W1) (g:=g) (Lib.compact T++List.replicate (S.length-(Lib.compact T).length) 0).toArray;rw [zfK]at hgr2
   have hK2:(Sort.putRow (Value.int .i64) (Sort.ahead W1 q) g 0 (Lib.compact T++List.replicate (S.length-(Lib.compact T).length) 0).toArray).heap[D]?=some (.deferred (some [])):=(hgr2.block D (Array.getElem?_eq_some_iff.1 hK1).1 (fun e=>by
    have:g=D:=by simpa using e.symm
    rw [this,hK1]at hrow1;cases hrow1)).trans hK1
   have hB2:RowKit.Below w.heap.size w (Sort.putRow (Value.int .i64) (Sort.ahead W1 q) g 0 (Lib.compact T++List.replicate (S.length-(Lib.compact T).length) 0).toArray):=hB1.grown hgr2 hB1.size (fun j hj=>by cases hj;exact hbase);refine⟨by simp,.inl ⟨_,_,rfl,run_takeDeferred hK2,?_⟩⟩;have hbl:=belowK_b (w:=w) (zzL _) _ D _ (.deferred none) (by omega) hK2 rfl rfl;exact⟨_,results_tmp rfl _ _ _,⟨Lib.compact T,_,_,rfl,hints.putObj hK2,HSU.out _ (fun k=>(zha T k).trans (HTm.out k)),by have:=HTl.out;omega⟩,hB2.trans hbl⟩
 case stop=>
  rintro D c pre W _ _ h _;exact h.elim
end Go.Proofs.YtepjanajflkakaaGreatDoor
