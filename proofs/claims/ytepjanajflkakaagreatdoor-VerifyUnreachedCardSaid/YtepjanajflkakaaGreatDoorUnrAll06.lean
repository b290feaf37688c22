/- part 6 -/
import Derived.BigRegion
import Derived.Deep.DeepCutAuto
import Derived.Test.YtepjanajflkakaaGreatDoorUnrAll03
import Derived.Test.YtepjanajflkakaaGreatDoorUnrAll04
namespace Go.Proofs.YtepjanajflkakaaGreatDoor
open Go.RowKit
set_option linter.unusedVariables false
set_option linter.unusedSimpArgs false
set_option maxRecDepth 100000
set_option maxHeartbeats 40000000
def stRow (s:VSt) (xo:Option Addr) (xc:Nat) (yo:Option Addr) (yc:Nat) (to':Option Addr) (tc:Nat):Array Value:=
 #[.int .i64 s.frame,.slice xo s.x.length xc,.slice yo s.y.length yc,.slice to' s.tries.length tc,.bool s.mt,.int .i64 s.recv,.int .i64 s.frm]
structure StLs (w:World) (s:VSt) (xo:Option Addr) (xc:Nat) (yo:Option Addr) (yc:Nat) (to':Option Addr) (tc:Nat):Prop where
 x:IntsAt w xo s.x
 y:IntsAt w yo s.y
 t:IntsAt w to' s.tries
 xl:s.x.length<=xc
 yl:s.y.length<=yc
 tl:s.tries.length<=tc
def StAt (w:World) (b:Nat) (s:VSt):Prop:= ∃xo xc yo yc to' tc,w.heap[b]?=some (.cells (stRow s xo xc yo yc to' tc) 91 (0,0))/\StLs w s xo xc yo yc to' tc
theorem StLs.keep {w w':World} {s:VSt} {xo yo to':Option Addr} {xc yc tc:Nat} (h:StLs w s xo xc yo yc to' tc) (k:KeepT w w'):StLs w' s xo xc yo yc to' tc:=
 ⟨h.x.keep k,h.y.keep k,h.t.keep k,h.xl,h.yl,h.tl⟩
theorem StAt.keep {w w':World} {b:Nat} {s:VSt} (h:StAt w b s) (k:KeepT w w'):StAt w' b s:=by
 obtain⟨xo,xc,yo,yc,to',tc,hr,hl⟩:=h
 exact⟨xo,xc,yo,yc,to',tc,k.2 b _ _ _ hr (by decide) (by decide),hl.keep k⟩
theorem StAt.below {w w':World} {b:Nat} {s:VSt} (h:StAt w b s) (k:Below w.heap.size w w'):StAt w' b s:=h.keep (.below k)
theorem StAt.lt {w:World} {b:Nat} {s:VSt} (h:StAt w b s):b<w.heap.size:=by
 obtain⟨_,_,_,_,_,_,hr,_⟩:=h;exact lt_of_row hr
structure VLen (s:VSt):Prop where
 x:s.x.length<=1000
 y:s.y.length<=10000
 t:s.tries.length<=1000000
theorem StAt.cells {w:World} {b:Nat} {s:VSt} (h:StAt w b s): ∃xo xc yo yc to' tc,w.cell? ⟨b,0,none⟩=some (.int .i64 s.frame)/\w.cell? ⟨b,1,none⟩=some (.slice xo s.x.length xc)/\w.cell? ⟨b,2,none⟩=some (.slice yo s.y.length yc) /\
  w.cell? ⟨b,3,none⟩=some (.slice to' s.tries.length tc)/\w.cell? ⟨b,4,none⟩=some (.bool s.mt)/\w.cell? ⟨b,5,none⟩=some (.int .i64 s.recv)/\w.cell? ⟨b,6,none⟩=some (.int .i64 s.frm)/\StLs w s xo xc yo yc to' tc:=by
 obtain⟨xo,xc,yo,yc,to',tc,hr,hl⟩:=h
 refine⟨xo,xc,yo,yc,to',tc,?_,?_,?_,?_,?_,?_,?_,hl⟩<;>rw [cell_of_row _ _ _ _ _ _ hr]<;>rfl
theorem IntsAt.heap {w w':World} {ao:Option Addr} {l:List Int} (h:IntsAt w ao l) (e:w'.heap=w.heap):IntsAt w' ao l:=by
 unfold IntsAt;rw [e];exact h
theorem vk_of {W w:World} (h:Below W.heap.size W w):W.heap.size<=w.heap.size/\ ∀b o,b<W.heap.size->w.cell? ⟨b,o,none⟩=W.cell? ⟨b,o,none⟩:=⟨h.size,fun b o hb=>h.cell (p:=⟨b,o,none⟩) hb⟩
theorem equal_any (l m:List Int) (ao bo:Option Addr) (c d:Nat) (w:World) (hl:IntsAt w ao l) (hm:IntsAt w bo m) (b1:l.length<=1000000) (b2:m.length<=1000000):
  Calls Tryz.prog 129 #[.slice ao l.length c,.slice bo m.length d] w fun e w'=>e= .returned (.bool (decide (l=m)))/\ ∃q,w'=w.drewN q:=by
 by_cases hn:l.length=m.length
 ·rcases hl with rfl|⟨b,off,cs,fr,rfl,hb,hr⟩
  ·have hm0:m= []:=List.eq_nil_of_length_eq_zero (by simpa using hn.symm)
   subst hm0
   refine(Tryz.slices_Equal_int_empty ao bo c 0 d w (by omega)).mono ?_
   rintro e w' ⟨rfl,rfl⟩
   exact⟨rfl,0,rfl⟩
  ·rcases hm with rfl|⟨b',off',cs',fr',rfl,hb',hr'⟩
   ·have hm0:l= []:=List.eq_nil_of_length_eq_zero (by simpa using hn)
    subst hm0
    refine(Tryz.slices_Equal_int_empty (some ⟨b,off,none⟩) bo c 0 d w (by omega)).mono ?_
    rintro e w' ⟨rfl,rfl⟩
    exact⟨rfl,0,rfl⟩
   ·have g1: ∀j,j<l.length->w.cell? ⟨b,off+j,none⟩=some (.int .i64 (l.getD j 0)):=fun j hj=>by
     rw [cell_of_row _ _ _ _ _ _ hb,hr j hj,List.getD_eq_getElem?_getD,List.getElem?_eq_getElem hj];rfl
    have g2: ∀j,j<m.length->w.cell? ⟨b',off'+j,none⟩=some (.int .i64 (m.getD j 0)):=fun j hj=>by
     rw [cell_of_row _ _ _ _ _ _ hb',hr' j hj,List.getD_eq_getElem?_getD,List.getElem?_eq_getElem hj];rfl
    refine(Tryz.slices_Equal_int b off l.length c b' off' m.length d l m w (Nat.le_refl _) (Nat.le_refl _) (by omega) (by omega) g1 g2).mono ?_
    rintro e w' ⟨rfl,hq⟩
    refine⟨?_,hq⟩
    rw [List.take_length,List.take_length]
    congr 2
    exact Bool.eq_iff_iff.2 (by simp)
 ·refine(Tryz.slices_Equal_int_lens ao bo l.length c m.length d w hn).mono ?_
  rintro e w' ⟨rfl,rfl⟩
  refine⟨?_,0,rfl⟩
  rw [decide_eq_false (fun h=>hn (by rw [h]))]
theorem ventry_any (n:Int) (w:World) (hn:0<=n/\n<=1000):
  Calls Tryz.prog 54 #[.int .i64 n] w fun e w'=>(∃b,e= .returned (.pointer (some ⟨b,0,none⟩))/\w.heap.size<=b/\StAt w' b (entryV n))/\Below w.heap.size w w':=by
 go_in
 go_wp2_with fail
 refine(vanys_any n w ⟨hn.1,by omega⟩).mono ?_
 rintro e w1 ⟨⟨ao,c,rfl,hi,hc⟩,hb⟩
 have HI:=Lib.hid hi;have HB:=Lib.hid hb;have HC:=Lib.hid hc
 clear hi hb hc
 go_wp2_with fail
 go_ret
 have hA:Below w1.heap.size w1 (w1.alloc (.cells #[.int .i64 (-1),.slice ao (anysV n).length c,.slice none 0 0,.slice none 0 0,.bool false,.int .i64 0,.int .i64 0] 91)):=(Below.refl _ _).alloc (Nat.le_refl _) _
 exact⟨⟨w1.heap.size,rfl,HB.out.size,ao,c,none,0,none,0,heap_alloc_new _ _,HI.out.below hA,.nil _ _,.nil _ _,HC.out,Nat.le_refl _,Nat.le_refl _⟩,HB.out.trans (hA.mono HB.out.size)⟩
theorem vregister_any (b:Nat) (s:VSt) (n:Int) (w:World) (h:StAt w b s) (hn:0<=n/\n<=1000000) (hl:s.x.length<=1000000):
  Calls Tryz.prog 134 #[.pointer (some ⟨b,0,none⟩),.int .i64 n] w fun e w'=>e= .returned (.int .i64 (typT s.x n))/\w'=w:=by
 obtain⟨n,rfl⟩:=Int.eq_ofNat_of_zero_le hn.1
 obtain⟨xo,xc,yo,yc,to',tc,c0,c1,c2,c3,c4,c5,c6,hL⟩:=h.cells
 have hx:=hL.x
 have E:Hid (typT s.x (n:Int)=s.x.getD n 0):=Lib.hid rfl
 clear c0 c2 c3 c4 c5 c6 hL h
 generalize hxs:s.x=xs at *
 clear hxs
 by_cases hlt:n<xs.length
 ·obtain⟨bx,off,rfl,hb,q0⟩:=hx.cell hlt
  generalize xs.getD n 0=v at *
  clear hx
  go_in
  go_wp2_with fail
  go_ret
  exact⟨ret_i E.out.symm,rfl⟩
 ·have E2:Hid (typT xs (n:Int)=0):=Lib.hid (by rw [E.out];exact getD_le _ (by omega))
  clear hx E
  go_in
  go_wp2_with fail
  go_ret
  exact⟨ret_i E2.out.symm,rfl⟩
theorem quiet_of2 {P:Program} {f:FuncId} {args:Array Value} {w:World} {q n:Nat} {v:Value}
  (h:Calls P f args (w.drewN (q+n)) fun e w'=>e= .returned v/\ ∃m,w'=(w.drewN (q+n)).drewN m):Calls P f args (w.drewN (q+n)) fun e w''=>e= .returned v/\ ∃m,w''=w.drewN (q+m):=
 h.mono fun _ _ ⟨he,m,hm⟩=>⟨he,n+m,by rw [hm,World.drewN_drewN,Nat.add_assoc]⟩
theorem stEq {a b : Int} (h : a = b) : (a != b) = false := by rw [h]; simp
theorem stNe {a b : Int} (h : a ≠ b) : (a != b) = true := by simpa using h
theorem vclash_any (p q:Nat) (s t:VSt) (w:World) (hs:StAt w p s) (ht:StAt w q t) (ls:VLen s) (lt:VLen t):
  Calls Tryz.prog 86 #[.pointer (some ⟨p,0,none⟩),.pointer (some ⟨q,0,none⟩)] w fun e w'=>e= .returned (.int .i64 (clashV s t))/\ ∃n,w'=w.drewN n:=by
 have HP:=Lib.hid hs;have HQ:=Lib.hid ht
 obtain⟨xo,xc,yo,yc,to',tc,c0,c1,c2,c3,c4,c5,c6,hL⟩:=hs.cells
 obtain⟨xo',xc',yo',yc',to2,tc',d0,d1,d2,d3,d4,d5,d6,hL'⟩:=ht.cells
 have hT:=hL.t;have hT':=hL'.t
 have l1:=ls.t;have l2:=lt.t
 have HT:=Lib.hid hT;have HT':=Lib.hid hT'
 clear c1 c2 c4 d1 d2 d4 hL hL' hs ht ls lt hT hT'
 have E:Hid (clashV s t=if s.frame≠t.frame then 181 else if s.tries≠t.tries then 182 else if s.recv≠t.recv∨s.frm≠t.frm then 184 else 0):=Lib.hid rfl
 generalize clashV s t=R at *
 generalize s.frame=f1 at *;generalize t.frame=f2 at *
 generalize s.tries=t1 at *;generalize t.tries=t2 at *
 generalize s.recv=r1 at *;generalize t.recv=r2 at *
 generalize s.frm=g1 at *;generalize t.frm=g2 at *
 by_cases h1:f1=f2
 ·have b1:=stEq h1
  by_cases h2:t1=t2
  ·have b2:decide (t1=t2)=true:=decide_eq_true h2
   have hE: ∀wx:World,wx.heap=w.heap->Calls Tryz.prog 129 #[.slice to' t1.length tc,.slice to2 t2.length tc'] wx fun e w'=>e= .returned (.bool true)/\ ∃q,w'=wx.drewN q:=fun wx hx=>by
    have h:=equal_any t1 t2 to' to2 tc tc' wx (HT.out.heap hx) (HT'.out.heap hx) l1 l2
    rwa [b2]at h
   have HE:=Lib.hid hE
   clear hE b2
   by_cases h3:r1=r2
   ·have b3:=stEq h3
    by_cases h4:g1=g2
    ·have b4:=stEq h4
     have E1:Hid (R=0):=Lib.hid (by rw [E.out,if_neg (by simp [h1]),if_neg (by simp [h2]),if_neg (by simp [h3,h4])])
     clear h1 h2 h3 h4 E
     go_in
     go_wp2_with fail
     go_quiet (fail)
     go_wp2_with fail
     go_quiet ((refine quiet_of2 (HE.out _ ?_);rfl))
     go_wp2_with fail
     go_quiet (fail)
     go_wp2_with fail
     go_ret
     exact⟨ret_i E1.out.symm,by first|exact⟨_,rfl⟩|(simp only [World.drewN_drewN];exact⟨_,rfl⟩)⟩
    ·have b4:=stNe h4
     have E1:Hid (R=184):=Lib.hid (by rw [E.out,if_neg (by simp [h1]),if_neg (by simp [h2]),if_pos (by simp [h3,h4])])
     clear h1 h2 h3 h4 E
     go_in
     go_wp2_with fail
     go_quiet (fail)
     go_wp2_with fail
     go_quiet ((refine quiet_of2 (HE.out _ ?_);rfl))
     go_wp2_with fail
     go_quiet (fail)
     go_wp2_with fail
     go_ret
     exact⟨ret_i E1.out.symm,by first|exact⟨_,rfl⟩|(simp only [World.drewN_drewN];exact⟨_,rfl⟩)⟩
   ·have b3:=stNe h3
    have E1:Hid (R=184):=Lib.hid (by rw [E.out,if_neg (by simp [h1]),if_neg (by simp [h2]),if_pos (by simp [h3])])
    clear h1 h2 h3 E
    go_in
    go_wp2_with fail
    go_quiet (fail)
    go_wp2_with fail
    go_quiet ((refine quiet_of2 (HE.out _ ?_);rfl))
    go_wp2_with fail
    go_quiet (fail)
    go_wp2_with fail
    go_ret
    exact⟨ret_i E1.out.symm,by first|exact⟨_,rfl⟩|(simp only [World.drewN_drewN];exact⟨_,rfl⟩)⟩
  ·have b2:decide (t1=t2)=false:=decide_eq_false h2
   have hE: ∀wx:World,wx.heap=w.heap->Calls Tryz.prog 129 #[.slice to' t1.length tc,.slice to2 t2.length tc'] wx fun e w'=>e= .returned (.bool false)/\ ∃q,w'=wx.drewN q:=fun wx hx=>by
    have h:=equal_any t1 t2 to' to2 tc tc' wx (HT.out.heap hx) (HT'.out.heap hx) l1 l2
    rwa [b2]at h
   have HE:=Lib.hid hE
   have E1:Hid (R=182):=Lib.hid (by rw [E.out,if_neg (by simp [h1]),if_pos h2])
   clear hE b2 h1 h2 E
   go_in
   go_wp2_with fail
   go_quiet (fail)
   go_wp2_with fail
   go_quiet ((refine quiet_of2 (HE.out _ ?_);rfl))
   go_wp2_with fail
   go_ret
   exact⟨ret_i E1.out.symm,by first|exact⟨_,rfl⟩|(simp only [World.drewN_drewN];exact⟨_,rfl⟩)⟩
 ·have b1:=stNe h1
  have E1:Hid (R=181):=Lib.hid (by rw [E.out,if_pos h1])
  clear h1 E
  go_in
  go_wp2_with fail
  go_quiet (fail)
  go_wp2_with fail
  go_ret
  exact⟨ret_i E1.out.symm,by first|exact⟨_,rfl⟩|(simp only [World.drewN_drewN];exact⟨_,rfl⟩)⟩
theorem cell_far {w:World} {X k b o:Nat} {v:Value} (h:b≠X):(w.setCell ⟨X,k,none⟩ v).drew.cell? ⟨b,o,none⟩=w.cell? ⟨b,o,none⟩:=by
 show(w.setCell ⟨X,k,none⟩ v).cell? ⟨b,o,none⟩=_
 unfold World.cell?
 rw [heap_setCell_other _ _ _ _ h]
theorem IntsAt.setFar {w:World} {ao:Option Addr} {l:List Int} {Y i:Nat} {v:Value} {cs:Array Value} {T:TypeId} {fr:Nat × Nat} (h:IntsAt w ao l) (hY:w.heap[Y]?=some (.cells cs T fr)) (hT:T≠3):IntsAt (w.setCell ⟨Y,i,none⟩ v) ao l:=
 h.imp id fun⟨b,off,cs',fr',e,hb,hr⟩=>⟨b,off,cs',fr',e,(heap_setCell_other w ⟨Y,i,none⟩ b v (fun hx=>by
  have hx':b=Y:=hx
  rw [hx',hY]at hb
  exact hT (by injection hb with hb;injection hb))).trans hb,hr⟩
theorem joinL_getElem (l m:List Int) {k:Nat} (h1:k<l.length) (h2:k<m.length) (h:k<(joinL l m).length):(joinL l m)[k]=joinT (l.getD k 0) (m.getD k 0):=by
 have:=joinL_getD' l m k
 rw [List.getD_eq_getElem?_getD,List.getElem?_eq_getElem h]at this
 exact this
theorem vjoined_any (p q:Nat) (s t:VSt) (w:World) (hs:StAt w p s) (ht:StAt w q t) (ls:VLen s) (lt:VLen t) (hy:s.y.length=t.y.length):
  Calls Tryz.prog 87 #[.pointer (some ⟨p,0,none⟩),.pointer (some ⟨q,0,none⟩)] w fun e w'=>(∃b,e= .returned (.pointer (some ⟨b,0,none⟩))/\w.heap.size<=b/\StAt w' b (joinS s t))/\Below w.heap.size w w':=by
 have HP:=Lib.hid hs;have HQ:=Lib.hid ht
 obtain⟨xo,xc,yo,yc,to',tc,c0,c1,c2,c3,c4,c5,c6,hL⟩:=hs.cells
 obtain⟨xo',xc',yo',yc',to2,tc',d0,d1,d2,d3,d4,d5,d6,hL'⟩:=ht.cells
 have HL:=Lib.hid hL;have HL':=Lib.hid hL'
 have l1:=ls.x;have l2:=lt.x;have l3:=ls.y;have l4:=lt.y;have l5:=ls.t
 clear hs ht ls lt hL hL' d0 d3 d5 d6
 have HC1:=Lib.hid c1;have HD1:=Lib.hid d1;have HC2:=Lib.hid c2;have HD2:=Lib.hid d2
 have hp:=HP.out.lt;have hq:=HQ.out.lt
 have HE:Hid (joinS s t=⟨s.frame,trimT (joinL s.x t.x),joinL s.y t.y,s.tries,s.mt&&t.mt,s.recv,s.frm⟩):=Lib.hid rfl
 generalize joinS s t=R at *
 have hrow: ∀m:Bool,Below w.heap.size w (w.alloc (.cells #[.int .i64 s.frame,.slice none 0 0,.slice none 0 0,.slice to' s.tries.length tc,.bool m,.int .i64 s.recv,.int .i64 s.frm] 91)).drew:=fun m=>((Below.refl _ _).alloc (Nat.le_refl _) _).drew
 have SK0:=Lib.hid (vk_of (Below.refl w.heap.size w).drew)
 have SK1:=Lib.hid (vk_of (hrow false));have SK2:=Lib.hid (vk_of (hrow true))
 clear hrow
 go_in
 go_upto_region 1 with fail
 go_cut [5] (fun v wx=>v= .pointer (some ⟨w.heap.size,0,none⟩)/\Hid (wx.heap[w.heap.size]?=some (.cells #[.int .i64 s.frame,.slice none 0 0,.slice none 0 0,.slice to' s.tries.length tc,.bool (s.mt&&t.mt),.int .i64 s.recv,.int .i64 s.frm] 91 (0,0))/\Below w.heap.size w wx))
 case first=>
  as_aux_lemma=>
  generalize s.mt=m1 at *;generalize t.mt=m2 at *
  cases m1 with
  |false=>
   clear SK0 SK1 SK2
   go_region
   go_wp2_with fail
   go_meet
   case rel=>exact⟨rfl,Lib.hid ⟨heap_alloc_new _ _,((Below.refl _ _).alloc (Nat.le_refl _) _).drew⟩⟩
  |true=>
   cases m2 with
   |false=>
    first|go_region_held3 (fun w'=>w.heap.size<=w'.heap.size/\ ∀b o,b<w.heap.size->w'.cell? ⟨b,o,none⟩=w.cell? ⟨b,o,none⟩) (first|with_reducible exact SK0.out|with_reducible exact SK1.out) (fail)|fail
    go_wp2_with fail
    go_meet
    case rel=>exact⟨rfl,Lib.hid ⟨heap_alloc_new _ _,((Below.refl _ _).alloc (Nat.le_refl _) _).drew⟩⟩
   |true=>
    first|go_region_held3 (fun w'=>w.heap.size<=w'.heap.size/\ ∀b o,b<w.heap.size->w'.cell? ⟨b,o,none⟩=w.cell? ⟨b,o,none⟩) (first|with_reducible exact SK0.out|with_reducible exact SK2.out) (fail)|fail
    go_wp2_with fail
    go_meet
    case rel=>exact⟨rfl,Lib.hid ⟨heap_alloc_new _ _,((Below.refl _ _).alloc (Nat.le_refl _) _).drew⟩⟩
 case rest=>
  obtain⟨rfl,HW⟩:=hcut
  rename World=>W
  clear SK0 SK1 SK2
  have c1':=(HP.out.below HW.out.2).cells
  have HB:=Lib.hid HW.out.2
  have q1:W.cell? ⟨p,1,none⟩=some (.slice xo s.x.length xc):=(HB.out.cell (p:=⟨p,1,none⟩) hp).trans c1
  have q2:W.cell? ⟨q,1,none⟩=some (.slice xo' t.x.length xc'):=(HB.out.cell (p:=⟨q,1,none⟩) hq).trans d1
  clear c1'
  go_wp2_with fail
  go_region
  obtain⟨n,hn⟩: ∃n:Nat,n=min s.x.length t.x.length:=⟨_,rfl⟩
  have hmin:min (s.x.length:Int) (t.x.length:Int)=(n:Int):=by omega
  rw [hmin]
  have HN:=Lib.hid hn
  have hn1:n<=s.x.length:=by omega
  have hn2:n<=t.x.length:=by omega
  clear hmin hn
  obtain⟨arr,ha,hmk⟩:=mkInts n (by omega)
  have HA:=Lib.hid ha
  have hmkd:=hmk W.drew
  clear hmk ha q1 q2 c1 c2 c3 c4 c5 c6 d1 d2 d4 c0
  go_wp2_with fail
  have hrow:((W.alloc (.cells arr 3)).drew).heap[W.heap.size]?=some (.cells arr 3 (0,0)):=heap_alloc_new W _
  have hB1:Below W.heap.size W (W.alloc (.cells arr 3)).drew:=((Below.refl _ _).alloc (Nat.le_refl _) _).drew
  have hBW:w.heap.size<W.heap.size:=lt_of_row HW.out.1
  have e0:=(hB1.block _ hBW).trans HW.out.1
  have hB2:=HB.out.trans (hB1.mono HB.out.size)
  generalize(W.alloc (.cells arr 3)).drew=W1 at *
  have HR:=Lib.hid hrow;have HE0:=Lib.hid e0;have HB2:=Lib.hid hB2;have HBW:=Lib.hid hBW
  clear hrow hB1 e0 hB2 hBW hmkd HW HB
  generalize hX:W.heap.size=X at *
  have HX:=Lib.hid hX
  clear hX
  generalize hY:w.heap.size=Y at *
  have HY:=Lib.hid hY
  clear hY
  go_loopw [8,52] (fun _ iv wr=> ∃(k:Nat) (ar:Array Value),k<=n/\iv= .int .i64 k/\Hid (wr.heap[X]?=some (.cells ar 3 (0,0))/\ar.size=n/\HoldsI ar k (fun j=>joinT (s.x.getD j 0) (t.x.getD j 0)))/\Hid (wr.heap[Y]?=W1.heap[Y]?/\Below Y w wr)) (fun _ iv _=>n-(intOf iv).toNat)
  case atStart=>exact⟨0,arr,Nat.zero_le _,rfl,Lib.hid ⟨HR.out,HA.out,fun j hj=>absurd hj (Nat.not_lt_zero j)⟩,Lib.hid ⟨rfl,HB2.out⟩⟩
  case round=>
   obtain⟨k,ar,hk,rfl,HK,HF⟩:=hrel
   rename World=>wr
   by_cases hlt:k<n
   ·as_aux_lemma=>
    have hc:=cellOf HK.out.1 (k:=k) (by rw [HK.out.2.1];exact hlt)
    have hf:wr.frozen? ⟨X,k,none⟩=false:=frozen_of_row _ _ _ _ _ HK.out.1
    have q1:wr.cell? ⟨p,1,none⟩=some (.slice xo s.x.length xc):=(HF.out.2.cell (p:=⟨p,1,none⟩) hp).trans HC1.out
    have q2:wr.cell? ⟨q,1,none⟩=some (.slice xo' t.x.length xc'):=(HF.out.2.cell (p:=⟨q,1,none⟩) hq).trans HD1.out
    obtain⟨bx,ox,hxo,hbx,z1⟩:=HL.out.x.cell (k:=k) (by omega)
    obtain⟨bx',ox',hxo',hbx',z2⟩:=HL'.out.x.cell (k:=k) (by omega)
    rw [HY.out]at hbx hbx'
    replace z1:=(HF.out.2.cell (p:=⟨bx,ox+k,none⟩) hbx).trans z1
    replace z2:=(HF.out.2.cell (p:=⟨bx',ox'+k,none⟩) hbx').trans z2
    have hYX:=HBW.out
    have hK2:=HK.out.2.2.set (f:=fun j=>joinT (s.x.getD j 0) (t.x.getD j 0)) (k:=k) (by rw [HK.out.2.1];exact hlt)
    have HK2:=Lib.hid hK2
    have hpr:p<wr.heap.size:=Nat.lt_of_lt_of_le hp (by rw [<-HY.out];exact HF.out.2.size)
    have hqr:q<wr.heap.size:=Nat.lt_of_lt_of_le hq (by rw [<-HY.out];exact HF.out.2.size)
    subst hxo hxo'
    clear hK2
    have HZ1:=Lib.hid z1;have HZ2:=Lib.hid z2
    generalize hv1:s.x.getD k 0=v1 at *
    generalize hv2:t.x.getD k 0=v2 at *
    have HV1:=Lib.hid hv1;have HV2:=Lib.hid hv2
    have hI0:(0:Int)<=(k:Int):=by omega
    have hI1:(k:Int)<(s.x.length:Int):=by omega
    have hI2:(k:Int)<(t.x.length:Int):=by omega
    have hI3:(k:Int)<(n:Int):=by omega
    clear hv1 hv2
    go_upto_region 7 with fail
    have KS:Hid (wr.drew.cell? ⟨p,1,none⟩=some (.slice (some ⟨bx,ox,none⟩) s.x.length xc)/\wr.drew.cell? ⟨q,1,none⟩=some (.slice (some ⟨bx',ox',none⟩) t.x.length xc')/\wr.drew.cell? ⟨bx,ox+k,none⟩=some (.int .i64 v1)/\wr.drew.cell? ⟨bx',ox'+k,none⟩=some (.int .i64 v2)):=Lib.hid ⟨q1,q2,z1,z2⟩
    have KT:Hid ((wr.setCell ⟨X,k,none⟩ (.int .i64 (joinT v1 v2))).drew.cell? ⟨p,1,none⟩=some (.slice (some ⟨bx,ox,none⟩) s.x.length xc)/\(wr.setCell ⟨X,k,none⟩ (.int .i64 (joinT v1 v2))).drew.cell? ⟨q,1,none⟩=some (.slice (some ⟨bx',ox',none⟩) t.x.length xc') /\
     (wr.setCell ⟨X,k,none⟩ (.int .i64 (joinT v1 v2))).drew.cell? ⟨bx,ox+k,none⟩=some (.int .i64 v1)/\(wr.setCell ⟨X,k,none⟩ (.int .i64 (joinT v1 v2))).drew.cell? ⟨bx',ox'+k,none⟩=some (.int .i64 v2)):=
     Lib.hid ⟨(cell_far (by omega)).trans q1,(cell_far (by omega)).trans q2,(cell_far (by omega)).trans z1,(cell_far (by omega)).trans z2⟩
    first|go_region_held3 (fun w'=>w'.cell? ⟨p,1,none⟩=some (.slice (some ⟨bx,ox,none⟩) s.x.length xc)/\w'.cell? ⟨q,1,none⟩=some (.slice (some ⟨bx',ox',none⟩) t.x.length xc')/\w'.cell? ⟨bx,ox+k,none⟩=some (.int .i64 v1)/\w'.cell? ⟨bx',ox'+k,none⟩=some (.int .i64 v2)) (first|with_reducible exact KS.out|with_reducible exact KT.out)
     ((go_at_call 130;refine(vjoin_any _ _ _).mono ?_;rintro e w1 ⟨rfl,rfl⟩))|fail
    go_wp2_with fail
    refine⟨⟨k+1,ar.setIfInBounds k (.int .i64 (joinT v1 v2)),hlt,by go_num,Lib.hid ⟨heap_setCell_same _ _ _ _ _ _ HK.out.1,by rw [Array.size_setIfInBounds];exact HK.out.2.1,?_⟩,
     Lib.hid ⟨(heap_setCell_other wr ⟨X,k,none⟩ Y _ (Nat.ne_of_lt HBW.out)).trans HF.out.1,(HF.out.2.setCell (p:=⟨X,k,none⟩) (Nat.le_of_lt HBW.out) _).drew⟩⟩,by simp [intOf];omega⟩
    exact HK2.out
   ·obtain rfl:k=n:=by omega
    have hlen:(joinL s.x t.x).length=k:=by rw [joinL_len];exact HN.out.symm
    have hI:IntsAt wr (some ⟨X,0,none⟩) (joinL s.x t.x):=.inr ⟨X,0,ar,(0,0),rfl,HK.out.1,fun j hj=>by
     rw [Nat.zero_add,HK.out.2.2 j (by omega),joinL_getElem s.x t.x (by omega) (by omega)]⟩
    have htr:=vtrim_any (joinL s.x t.x) (some ⟨X,0,none⟩) k wr hI (by unfold maxLen;omega) (by omega)
    have hI2:=hI.take (trimN (joinL s.x t.x) (joinL s.x t.x).length)
    change IntsAt wr _ (trimT (joinL s.x t.x))at hI2
    have hT2:(trimT (joinL s.x t.x)).length<=k:=by unfold trimT;rw [List.length_take];omega
    rw [hlen]at htr
    have HTR:=Lib.hid htr;have HI2:=Lib.hid hI2;have HT2:=Lib.hid hT2
    clear htr hI2 hI hlen hT2
    generalize trimT (joinL s.x t.x)=TX at *
    go_wp2_with fail
    refine HTR.out.mono ?_
    rintro e w1 ⟨rfl,hb1⟩
    have hYr:Y<wr.heap.size:=Nat.lt_of_lt_of_le HBW.out (Nat.le_of_lt (lt_of_row HK.out.1))
    have e1:w1.heap[Y]?=_:=(hb1.block Y hYr).trans (HF.out.1.trans HE0.out)
    have HE1:=Lib.hid e1
    have HI3:=Lib.hid (HI2.out.below hb1)
    have HB3:Hid (Below Y w w1):=Lib.hid (HF.out.2.trans (hb1.mono (by rw [<-HY.out];exact HF.out.2.size)))
    have z1:=cellOf e1 (k:=1) (by simp)
    have z2:=cellOf e1 (k:=2) (by simp)
    have z3:w1.frozen? ⟨Y,1,none⟩=false:=frozen_of_row _ _ _ _ _ e1
    have z4:w1.frozen? ⟨Y,2,none⟩=false:=frozen_of_row _ _ _ _ _ e1
    clear hb1 HTR HI2 HF HK HE0 z2 z4
    have e2:=heap_setCell_same w1 Y 1 _ _ (.slice (some ⟨X,0,none⟩) TX.length k) e1
    clear e1
    go_upto_region 10 with fail
    have hB4:Below Y w (w1.setCell ⟨Y,1,none⟩ (.slice (some ⟨X,0,none⟩) TX.length k)):=HB3.out.setCell (p:=⟨Y,1,none⟩) (Nat.le_refl _) _
    have hI4:=HI3.out.setFar (Y:=Y) (i:=1) (v:=.slice (some ⟨X,0,none⟩) TX.length k) HE1.out (by decide)
    generalize w1.setCell ⟨Y,1,none⟩ (.slice (some ⟨X,0,none⟩) TX.length k)=W2 at *
    have HI4:=Lib.hid hI4;have HB4:=Lib.hid hB4
    obtain⟨m,hm⟩: ∃m:Nat,m=s.y.length:=⟨_,rfl⟩
    have hm2:m=t.y.length:=hm.trans hy
    have hm9:m<=10000:=by omega
    obtain⟨arr2,ha2,hmk2⟩:=mkInts m (by omega)
    have HA2:=Lib.hid ha2
    have hmkd2:=hmk2 W2
    have HM:=Lib.hid hm;have HM2:=Lib.hid hm2
    have q3:W2.cell? ⟨p,2,none⟩=some (.slice yo m yc):=by rw [hm];exact(hB4.cell (p:=⟨p,2,none⟩) hp).trans HC2.out
    have hpY:p≠Y:=Nat.ne_of_lt hp
    have z5:=cellOf e2 (k:=2) (by simp)
    have z6:W2.frozen? ⟨Y,2,none⟩=false:=frozen_of_row _ _ _ _ _ e2
    have hY2:=lt_of_row e2
    have HE2:=Lib.hid e2
    clear hI4 hB4 z1 z3 ha2 hmk2 hm hm2 e2 hYr
    go_upto_region 11 with fail
    have e3:=heap_setCell_same W2 Y 2 _ _ (.slice (some ⟨W2.heap.size,0,none⟩) m m) HE2.out
    have hsz:(W2.setCell ⟨Y,2,none⟩ (.slice (some ⟨W2.heap.size,0,none⟩) m m)).heap.size=W2.heap.size:=by simp [World.setCell]
    have hA:=(Below.refl (W2.setCell ⟨Y,2,none⟩ (.slice (some ⟨W2.heap.size,0,none⟩) m m)).heap.size (W2.setCell ⟨Y,2,none⟩ (.slice (some ⟨W2.heap.size,0,none⟩) m m))).alloc (Nat.le_refl _) (.cells arr2 3)
    have e4:=(hA.block Y (by rw [hsz];exact hY2)).trans e3
    have e5:=heap_alloc_new (W2.setCell ⟨Y,2,none⟩ (.slice (some ⟨W2.heap.size,0,none⟩) m m)) (.cells arr2 3)
    rw [hsz]at e5
    have hS: ∀b cs fr,W2.heap[b]?=some (.cells cs 3 fr)->((W2.setCell ⟨Y,2,none⟩ (.slice (some ⟨W2.heap.size,0,none⟩) m m)).alloc (.cells arr2 3)).heap[b]?=some (.cells cs 3 fr)/\b<W2.heap.size:=fun b cs fr hb=>by
     have hbl:=lt_of_row hb
     refine⟨(hA.block b (by rw [hsz];exact hbl)).trans ((heap_setCell_other W2 ⟨Y,2,none⟩ b _ (fun hx=>?_)).trans hb),hbl⟩
     have hx':b=Y:=hx
     rw [hx',HE2.out]at hb
     exact absurd (show(91:TypeId)=3 by injection hb with hb;injection hb) (by decide)
    have hB5:=(HB4.out.setCell (p:=⟨Y,2,none⟩) (Nat.le_refl _) (.slice (some ⟨W2.heap.size,0,none⟩) m m)).trans (hA.mono (by rw [hsz];exact Nat.le_of_lt hY2))
    have hs5:W2.heap.size<((W2.setCell ⟨Y,2,none⟩ (.slice (some ⟨W2.heap.size,0,none⟩) m m)).alloc (.cells arr2 3)).heap.size:=lt_of_row e5
    generalize(W2.setCell ⟨Y,2,none⟩ (.slice (some ⟨W2.heap.size,0,none⟩) m m)).alloc (.cells arr2 3)=W3 at *
    generalize hZ:W2.heap.size=Z at *
    have HS:=Lib.hid hS;have HE4:=Lib.hid e4;have HE5:=Lib.hid e5;have HB5:=Lib.hid hB5
    have HYZ:=Lib.hid hY2;have HZ:=Lib.hid hZ
    have q5:W3.cell? ⟨p,2,none⟩=some (.slice yo m yc):=by rw [HM.out];exact(hB5.cell (p:=⟨p,2,none⟩) hp).trans HC2.out
    clear hS e4 e5 hB5 e3 hsz hA hY2 hZ hs5 q3 z5 z6 hmkd2
    go_wp2_with fail
    go_loopw [9,93] (fun _ iv wr=> ∃(j:Nat) (ar:Array Value),j<=m/\iv= .int .i64 j/\Hid (wr.heap[Z]?=some (.cells ar 3 (0,0))/\ar.size=m/\HoldsI ar j (fun i=>joinT (s.y.getD i 0) (t.y.getD i 0)))/\Hid (Below Z W3 wr)) (fun _ iv _=>m-(intOf iv).toNat)
    case atStart=>exact⟨0,arr2,Nat.zero_le _,rfl,Lib.hid ⟨HE5.out,HA2.out,fun j hj=>absurd hj (Nat.not_lt_zero j)⟩,Lib.hid (Below.refl _ _)⟩
    case round=>
     obtain⟨j,ar,hj,rfl,HK,HF⟩:=hrel
     rename World=>wr
     have HFB:Hid (Below Y w wr):=Lib.hid (HB5.out.trans (HF.out.mono (Nat.le_of_lt HYZ.out)))
     have e6:=(HF.out.block Y HYZ.out).trans HE4.out
     have HE6:=Lib.hid e6
     clear e6
     by_cases hlt:j<m
     ·as_aux_lemma=>
      have hc:=cellOf HK.out.1 (k:=j) (by rw [HK.out.2.1];exact hlt)
      have hf:wr.frozen? ⟨Z,j,none⟩=false:=frozen_of_row _ _ _ _ _ HK.out.1
      have y1:wr.cell? ⟨p,2,none⟩=some (.slice yo m yc):=by rw [HM.out];exact(HFB.out.cell (p:=⟨p,2,none⟩) hp).trans HC2.out
      have y2:wr.cell? ⟨q,2,none⟩=some (.slice yo' m yc'):=by rw [HM2.out];exact(HFB.out.cell (p:=⟨q,2,none⟩) hq).trans HD2.out
      have y3:wr.cell? ⟨Y,2,none⟩=some (.slice (some ⟨Z,0,none⟩) m m):=by rw [cell_of_row _ _ _ _ _ _ HE6.out];rfl
      obtain⟨bx,ox,hxo,hbx,z1⟩:=HL.out.y.cell (k:=j) (by rw [<-HM.out];exact hlt)
      obtain⟨bx',ox',hxo',hbx',z2⟩:=HL'.out.y.cell (k:=j) (by rw [<-HM2.out];exact hlt)
      rw [HY.out]at hbx hbx'
      replace z1:=(HFB.out.cell (p:=⟨bx,ox+j,none⟩) hbx).trans z1
      replace z2:=(HFB.out.cell (p:=⟨bx',ox'+j,none⟩) hbx').trans z2
      have hYZ:=HYZ.out
      have hK2:=HK.out.2.2.set (f:=fun i=>joinT (s.y.getD i 0) (t.y.getD i 0)) (k:=j) (by rw [HK.out.2.1];exact hlt)
      have HK2:=Lib.hid hK2
      subst hxo hxo'
      clear hK2
      generalize hv1:s.y.getD j 0=v1 at *
      generalize hv2:t.y.getD j 0=v2 at *
      have hI0:(0:Int)<=(j:Int):=by omega
      have hI3:(j:Int)<(m:Int):=by omega
      clear hv1 hv2
      go_upto_region 14 with fail
      have KS:Hid (wr.drew.cell? ⟨p,2,none⟩=some (.slice (some ⟨bx,ox,none⟩) m yc)/\wr.drew.cell? ⟨q,2,none⟩=some (.slice (some ⟨bx',ox',none⟩) m yc')/\wr.drew.cell? ⟨bx,ox+j,none⟩=some (.int .i64 v1)/\wr.drew.cell? ⟨bx',ox'+j,none⟩=some (.int .i64 v2)/\wr.drew.cell? ⟨Y,2,none⟩=some (.slice (some ⟨Z,0,none⟩) m m)):=Lib.hid ⟨y1,y2,z1,z2,y3⟩
      have KT:Hid ((wr.setCell ⟨Z,j,none⟩ (.int .i64 (joinT v1 v2))).drew.cell? ⟨p,2,none⟩=some (.slice (some ⟨bx,ox,none⟩) m yc)/\(wr.setCell ⟨Z,j,none⟩ (.int .i64 (joinT v1 v2))).drew.cell? ⟨q,2,none⟩=some (.slice (some ⟨bx',ox',none⟩) m yc') /\
       (wr.setCell ⟨Z,j,none⟩ (.int .i64 (joinT v1 v2))).drew.cell? ⟨bx,ox+j,none⟩=some (.int .i64 v1)/\(wr.setCell ⟨Z,j,none⟩ (.int .i64 (joinT v1 v2))).drew.cell? ⟨bx',ox'+j,none⟩=some (.int .i64 v2)/\(wr.setCell ⟨Z,j,none⟩ (.int .i64 (joinT v1 v2))).drew.cell? ⟨Y,2,none⟩=some (.slice (some ⟨Z,0,none⟩) m m)):=
       Lib.hid ⟨(cell_far (by omega)).trans y1,(cell_far (by omega)).trans y2,(cell_far (by omega)).trans z1,(cell_far (by omega)).trans z2,(cell_far (by omega)).trans y3⟩
      first|go_region_held3 (fun w'=>w'.cell? ⟨p,2,none⟩=some (.slice (some ⟨bx,ox,none⟩) m yc)/\w'.cell? ⟨q,2,none⟩=some (.slice (some ⟨bx',ox',none⟩) m yc')/\w'.cell? ⟨bx,ox+j,none⟩=some (.int .i64 v1)/\w'.cell? ⟨bx',ox'+j,none⟩=some (.int .i64 v2)/\w'.cell? ⟨Y,2,none⟩=some (.slice (some ⟨Z,0,none⟩) m m)) (first|with_reducible exact KS.out|with_reducible exact KT.out)
       ((go_at_call 130;refine(vjoin_any _ _ _).mono ?_;rintro e w1 ⟨rfl,rfl⟩))|fail
      go_wp2_with fail
      refine⟨⟨j+1,ar.setIfInBounds j (.int .i64 (joinT v1 v2)),hlt,by go_num,Lib.hid ⟨heap_setCell_same _ _ _ _ _ _ HK.out.1,by rw [Array.size_setIfInBounds];exact HK.out.2.1,HK2.out⟩,
       Lib.hid (HF.out.setCell (p:=⟨Z,j,none⟩) (Nat.le_refl _) _).drew⟩,by simp [intOf];omega⟩
     ·obtain rfl:j=m:=by omega
      go_wp2_with fail
      go_ret
      have hI6:IntsAt wr (some ⟨X,0,none⟩) TX:=HI4.out.imp id fun⟨b,off,cs,fr,e,hb,hr⟩=>⟨b,off,cs,fr,e,(HF.out.block b (HS.out b cs fr hb).2).trans (HS.out b cs fr hb).1,hr⟩
      have hlen:(joinL s.y t.y).length=j:=by rw [joinL_len,<-HM.out,<-HM2.out,Nat.min_self]
      have hI7:IntsAt wr (some ⟨Z,0,none⟩) (joinL s.y t.y):=.inr ⟨Z,0,ar,(0,0),rfl,HK.out.1,fun i hi=>by
       rw [hlen]at hi
       rw [Nat.zero_add,HK.out.2.2 i hi,joinL_getElem s.y t.y (by rw [<-HM.out];exact hi) (by rw [<-HM2.out];exact hi)]⟩
      have hbl:Below w.heap.size w wr:=by rw [HY.out];exact HFB.out
      refine⟨⟨Y,rfl,Nat.le_of_eq HY.out,some ⟨X,0,none⟩,k,some ⟨Z,0,none⟩,j,to',tc,?_,?_⟩,hbl⟩
      ·rw [HE6.out,HE.out]
       unfold stRow
       simp only [hlen]
       rfl
      ·rw [HE.out]
       exact⟨hI6,hI7,HL.out.t.below hbl,HT2.out,Nat.le_of_eq hlen,HL.out.tl⟩
def NewSt (w:World) (s:VSt) (e:Ending) (w':World):Prop:=(∃b,e= .returned (.pointer (some ⟨b,0,none⟩))/\w.heap.size<=b/\StAt w' b s)/\Below w.heap.size w w'
theorem valone_any (p:Nat) (s:VSt) (w:World) (hs:StAt w p s):Calls Tryz.prog 138 #[.pointer (some ⟨p,0,none⟩)] w (NewSt w (aloneV s)):=by
 obtain⟨xo,xc,yo,yc,to',tc,c0,c1,c2,c3,c4,c5,c6,hL⟩:=hs.cells
 have HL:=Lib.hid hL
 have HA:Hid (anysV 1= [1]):=Lib.hid rfl
 clear hL hs
 go_in
 go_upto_region 2 with fail
 have e0:=heap_alloc_new w (.cells (stRow s xo xc yo yc to' tc) 91)
 have hB:=(Below.refl w.heap.size w).alloc (Nat.le_refl _) (.cells (stRow s xo xc yo yc to' tc) 91)
 change (w.alloc (.cells #[.int .i64 s.frame,.slice xo s.x.length xc,.slice yo s.y.length yc,.slice to' s.tries.length tc,.bool s.mt,.int .i64 s.recv,.int .i64 s.frm] 91)).heap[w.heap.size]?=_ at e0
 change Below w.heap.size w (w.alloc (.cells #[.int .i64 s.frame,.slice xo s.x.length xc,.slice yo s.y.length yc,.slice to' s.tries.length tc,.bool s.mt,.int .i64 s.recv,.int .i64 s.frm] 91))at hB
 generalize w.alloc (.cells #[.int .i64 s.frame,.slice xo s.x.length xc,.slice yo s.y.length yc,.slice to' s.tries.length tc,.bool s.mt,.int .i64 s.recv,.int .i64 s.frm] 91)=W at *
 have HB:=Lib.hid hB
 clear c0 c1 c2 c3 c4 c5 c6 hB
 generalize hY:w.heap.size=Y at *
 have HY:=Lib.hid hY
 clear hY
 go_wp2_with fail
 refine(vanys_any 1 W ⟨by decide,by decide⟩).mono ?_
 rintro e w1 ⟨⟨ao,c,rfl,hi,hc⟩,hb1⟩
 rw [HA.out]at hi hc
 have e1:=(hb1.block Y (lt_of_row e0)).trans e0
 have HE1:=Lib.hid e1
 have HI:=Lib.hid hi;have HC:=Lib.hid hc
 have HB1:Hid (Below Y w w1):=Lib.hid (HB.out.trans (hb1.mono (by rw [<-HY.out];exact HB.out.size)))
 have z1:=cellOf e1 (k:=1) (by simp [stRow])
 have z2:w1.frozen? ⟨Y,1,none⟩=false:=frozen_of_row _ _ _ _ _ e1
 have z3:=cellOf e1 (k:=4) (by simp [stRow])
 have z4:w1.frozen? ⟨Y,4,none⟩=false:=frozen_of_row _ _ _ _ _ e1
 clear e0 e1 hi hc hb1
 go_wp2_with fail
 go_ret
 have e2:=heap_setCell_same _ Y 4 _ _ (.bool false) (heap_setCell_same _ Y 1 _ _ (.slice ao (anysV 1).length c) HE1.out)
 have hbl:Below w.heap.size w ((w1.setCell ⟨Y,1,none⟩ (.slice ao (anysV 1).length c)).setCell ⟨Y,4,none⟩ (.bool false)):=by
  rw [HY.out]
  exact(HB1.out.setCell (p:=⟨Y,1,none⟩) (Nat.le_refl _) _).setCell (p:=⟨Y,4,none⟩) (Nat.le_refl _) _
 refine⟨⟨Y,rfl,Nat.le_of_eq HY.out,ao,c,yo,yc,to',tc,e2,?_⟩,hbl⟩
 exact⟨(HI.out.setFar HE1.out (by decide)).setFar (heap_setCell_same _ _ _ _ _ _ HE1.out) (by decide),HL.out.y.below hbl,HL.out.t.below hbl,HC.out,HL.out.yl,HL.out.tl⟩
def OwnI (w:World) (B:Nat) (v:Value) (l:List Int):Prop:=w.ownsRow B 3 1 v l.length (l.map (Value.int .i64))
theorem OwnI.ints {w:World} {B:Nat} {v:Value} {l:List Int} (h:OwnI w B v l): ∃ao c,v= .slice ao l.length c/\IntsAt w ao l/\l.length<=c:=by
 rcases h.2 with⟨rfl,h0⟩|⟨g,cap,cur,rfl,hB,hg,h1,h2,h3,h4⟩
 ·exact⟨none,0,by rw [h0],.inl (List.eq_nil_of_length_eq_zero h0),Nat.le_of_eq h0⟩
 ·refine⟨_,_,rfl,.inr ⟨g,0,cur,(0,0),rfl,hg,fun j hj=>?_⟩,h1⟩
  have h5:(cur.toList.take (l.length*1))[j]?=(l.map (Value.int .i64))[j]?:=by rw [h4]
  rw [List.getElem?_take_of_lt (by omega),Array.getElem?_toList]at h5
  rw [Nat.zero_add,h5,List.getElem?_map,List.getElem?_eq_getElem hj];rfl
theorem OwnI.mono {w:World} {B B':Nat} {v:Value} {l:List Int} (h:OwnI w B v l) (hB:B'<=B):OwnI w B' v l:=
 ⟨h.1,h.2.imp id fun⟨g,cap,cur,a,b,c⟩=>⟨g,cap,cur,a,Nat.le_trans hB b,c⟩⟩
theorem vclone_any (l:List Int) (ao:Option Addr) (c:Nat) (w:World) (h:IntsAt w ao l) (hl:l.length<=1000000):
  Calls Tryz.prog 36 #[.slice ao l.length c] w fun e w'=>(∃v,e= .returned v/\OwnI w' w.heap.size v l)/\Below w.heap.size w w':=by
 rcases h with rfl|⟨b,off,cs,fr,rfl,hb,hr⟩
 ·cases ao with
  |none=>
   refine(Tryz.slices_Clone_int_nil 0 c w).mono ?_
   rintro e w' ⟨rfl,rfl⟩
   exact⟨⟨_,rfl,World.ownsRow_nil _ _ _ _⟩,Below.refl _ _⟩
  |some a=>
   refine(Tryz.slices_Clone_int_zero a c w).mono ?_
   rintro e w' ⟨v,rfl,ho,-,hb⟩
   exact⟨⟨v,rfl,ho⟩,hb⟩
 ·have g1: ∀j,j<l.length->w.cell? ⟨b,off+j,none⟩=some (.int .i64 (l.getD j 0)):=fun j hj=>by
   rw [cell_of_row _ _ _ _ _ _ hb,hr j hj,List.getD_eq_getElem?_getD,List.getElem?_eq_getElem hj];rfl
  refine(Tryz.slices_Clone_int b off l.length c l w (Nat.le_refl _) (by omega) g1).mono ?_
  rintro e w' ⟨v,rfl,ho,-,hb⟩
  rw [List.take_length]at ho
  exact⟨⟨v,rfl,ho⟩,hb⟩
theorem one_news (w:World) (x:Value) (T:TypeId): ∀(j:Nat) (u:Value),([x]:List Value)[j]?=some u->(w.alloc (.cells #[x] T)).cell? ((⟨w.heap.size,0,none⟩:Addr).add j)=some u:=by
 intro j u hj
 cases j with
 |zero=>
  have:x=u:=by simpa using hj
  subst this
  show(w.alloc (.cells #[x] T)).cell? ⟨w.heap.size,0+0,none⟩=some x
  rw [cell_of_row _ _ _ _ _ _ (heap_alloc_new w _)];rfl
 |succ j=>simp at hj
theorem vput_any (p:Nat) (s:VSt) (a:RArg) (tt:Int) (w:World) (hs:StAt w p s) (ls:VLen s) (h1:a.kind=1->0<=a.n/\a.n<=255) (h2:a.kind=2->0<=a.n/\a.n<s.y.length):
  Calls Tryz.prog 137 #[.pointer (some ⟨p,0,none⟩),.agg #[.int .i64 a.kind,.int .i64 a.n],.int .i64 tt] w (NewSt w (putV s a tt)):=by
 obtain⟨xo,xc,yo,yc,to',tc,c0,c1,c2,c3,c4,c5,c6,hL⟩:=hs.cells
 have HL:=Lib.hid hL
 have lx:=ls.x;have ly:=ls.y
 obtain⟨ak,an⟩:=a
 simp only at h1 h2
 have HP:Hid (putV s ⟨ak,an⟩ tt=if ak=1 then{s with x:=trimT (setN s.x an.toNat tt)}else if ak=2 then{s with y:=s.y.set an.toNat tt}else s):=Lib.hid rfl
 generalize putV s ⟨ak,an⟩ tt=R at *
 clear ls
 have hb0:=(Below.refl w.heap.size w).alloc (Nat.le_refl _) (.cells #[.int .i64 ak,.int .i64 an] 42)
 have e0:=heap_alloc_new w (.cells #[.int .i64 ak,.int .i64 an] 42)
 have hp:=hs.lt
 have HL:=Lib.hid hL
 have HL0:=Lib.hid hL
 have HC1:=Lib.hid c1;have HC2:=Lib.hid c2
 go_in
 go_upto_region 1 with fail
 generalize w.alloc (.cells #[.int .i64 ak,.int .i64 an] 42)=W at *
 replace c0:=(hb0.cell (p:=⟨p,0,none⟩) hp).trans c0
 replace c1:=(hb0.cell (p:=⟨p,1,none⟩) hp).trans c1
 replace c2:=(hb0.cell (p:=⟨p,2,none⟩) hp).trans c2
 replace c3:=(hb0.cell (p:=⟨p,3,none⟩) hp).trans c3
 replace c4:=(hb0.cell (p:=⟨p,4,none⟩) hp).trans c4
 replace c5:=(hb0.cell (p:=⟨p,5,none⟩) hp).trans c5
 replace c6:=(hb0.cell (p:=⟨p,6,none⟩) hp).trans c6
 have HB0:=Lib.hid hb0
 generalize hY:w.heap.size=Y at *
 have HY:=Lib.hid hY
 have hYW:=lt_of_row e0
 have HE0:=Lib.hid e0
 clear hL hs hb0 hY e0
 have e1:=heap_alloc_new W (.cells (stRow s xo xc yo yc to' tc) 91)
 have hB:=(Below.refl W.heap.size W).alloc (Nat.le_refl _) (.cells (stRow s xo xc yo yc to' tc) 91)
 change (W.alloc (.cells #[.int .i64 s.frame,.slice xo s.x.length xc,.slice yo s.y.length yc,.slice to' s.tries.length tc,.bool s.mt,.int .i64 s.recv,.int .i64 s.frm] 91)).heap[W.heap.size]?=_ at e1
 change Below W.heap.size W (W.alloc (.cells #[.int .i64 s.frame,.slice xo s.x.length xc,.slice yo s.y.length yc,.slice to' s.tries.length tc,.bool s.mt,.int .i64 s.recv,.int .i64 s.frm] 91))at hB
 go_upto_region 2 with fail
 generalize W.alloc (.cells #[.int .i64 s.frame,.slice xo s.x.length xc,.slice yo s.y.length yc,.slice to' s.tries.length tc,.bool s.mt,.int .i64 s.recv,.int .i64 s.frm] 91)=V at *
 have HE1:=Lib.hid e1
 have HEV:=Lib.hid ((hB.block Y hYW).trans HE0.out)
 have HBV:Hid (Below Y w V):=Lib.hid (HB0.out.trans (hB.mono (Nat.le_of_lt hYW)))
 have HLV:Hid (StLs V s xo xc yo yc to' tc):=Lib.hid ⟨HL.out.x.below (by rw [HY.out];exact HBV.out),HL.out.y.below (by rw [HY.out];exact HBV.out),HL.out.t.below (by rw [HY.out];exact HBV.out),HL.out.xl,HL.out.yl,HL.out.tl⟩
 have c1':=(HBV.out.cell (p:=⟨p,1,none⟩) hp).trans HC1.out
 have c2':=(HBV.out.cell (p:=⟨p,2,none⟩) hp).trans HC2.out
 clear HB0 HE0 HL hB e1 c0 c1 c2 c3 c4 c5 c6
 generalize W.heap.size=Z at *
 have b0:=cellOf HEV.out (k:=0) (by simp)
 have b1:=cellOf HEV.out (k:=1) (by simp)
 have z1:=cellOf HE1.out (k:=1) (by simp [stRow])
 have z2:=cellOf HE1.out (k:=2) (by simp [stRow])
 simp only [List.getElem_toArray,List.getElem_cons_zero,List.getElem_cons_succ]at b0 b1
 by_cases k1:ak=1
 ·subst k1
  obtain⟨h1a,h1b⟩:=h1 rfl
  clear h1 h2
  obtain⟨n,rfl⟩:=Int.eq_ofNat_of_zero_le h1a
  have E:Hid (R=⟨s.frame,trimT (setN s.x n tt),s.y,s.tries,s.mt,s.recv,s.frm⟩):=Lib.hid (by rw [HP.out,if_pos rfl];rfl)
  clear HP
  have hn:n<=255:=by omega
  obtain⟨i0,hi,hz0,hz1,hz2⟩:=info_parts infoInt
  go_upto_region 4 with fail
  go_wp2_with fail
  refine(vclone_any s.x xo xc V HLV.out.x (by omega)).mono ?_
  rintro e w1 ⟨⟨v,rfl,ho⟩,hb1⟩
  have hZV:=lt_of_row HE1.out
  generalize hN:V.heap.size=N at *
  have HN:=Lib.hid hN
  obtain⟨ao,c,rfl,-,-⟩:=ho.ints
  have HO:=Lib.hid ho;have HB1:=Lib.hid hb1
  clear ho hb1 hN b0 c1' c2' z1 z2
  go_wp2_with fail
  go_loopw [8] (fun v wr=> ∃(j:Nat) (ao:Option Addr) (c:Nat),s.x.length+j<=s.x.length+n+1/\(0<j->s.x.length+j<=n+1)/\v= .slice ao (s.x.length+j) c/\Hid (OwnI wr N (.slice ao (s.x.length+j) c) (s.x++List.replicate j 0))/\Hid (Below N V wr)) (fun v _=>match v with|.slice _ k _=>n+1-k|_=>0)
  case atStart=>exact⟨0,ao,c,by omega,by omega,rfl,Lib.hid (by rw [List.replicate_zero,List.append_nil];exact HO.out),HB1⟩
  case round=>
   obtain⟨j,ao,c,hj,hj2,rfl,HK,HF⟩:=hrel
   rename World=>wr
   have b1':wr.cell? ⟨Y,1,none⟩=some (.int .i64 (n:Int)):=(HF.out.cell (p:=⟨Y,1,none⟩) (by show Y<N;omega)).trans b1
   by_cases hlt:s.x.length+j<=n
   ·have HOA:Hid (OwnI (wr.alloc (.cells #[.int .i64 0] 3)) N (.slice ao (s.x.length+j) c) (s.x++List.replicate j 0)):=Lib.hid (HK.out.alloc _)
    have hlen:(s.x++List.replicate j 0).length=s.x.length+j:=by simp
    have hNs:N<=wr.heap.size+1:=by rw [<-HN.out];exact Nat.le_succ_of_le (by rw [HN.out];exact HN.out▸HF.out.size)
    go_wp2_with (at_builtin;refine wpList_append_own _ rfl (.tmp 26) (.tmp 27) 38 rfl N 3 i0 (.int .i64 0) 1 8 Tryz.underlying38 hi hz0 hz1 hz2 rfl (by decide) _ _ _ rfl HOA.out ⟨wr.heap.size,0,none⟩ 1 1 [.int .i64 0] rfl rfl (one_news _ _ _) (by simp [Value.oneCell']) (by rw [hlen];unfold maxLen;omega) (by rw [hlen];omega) (by simpa using hNs) ?_;intro v' w2 ho2 hg2 _)
    have hown:OwnI w2 N v' (s.x++List.replicate (j+1) 0):=by
     have e1:(s.x++List.replicate (j+1) 0).length=(s.x++List.replicate j 0).length+1:=by simp;omega
     have e2:(s.x++List.replicate (j+1) (0:Int)).map (Value.int .i64)=(s.x++List.replicate j 0).map (Value.int .i64)++ [.int .i64 0]:=by rw [List.replicate_succ'];simp
     unfold OwnI;rw [e1,e2];exact ho2
    have hbl:Below N V w2:=((HF.out.alloc (by rw [<-HN.out];exact HN.out▸HF.out.size) _).grown hg2 (by simpa using hNs) fun k e=>(HOA.out.lt k e).1)
    obtain⟨ao',c',rfl,-,-⟩:=hown.ints
    have e3:(s.x++List.replicate (j+1) (0:Int)).length=s.x.length+(j+1):=by simp
    rw [e3]at hown
    rw [e3]
    refine⟨⟨j+1,ao',c',by omega,fun _=>by omega,rfl,Lib.hid hown,Lib.hid hbl⟩,?_⟩
    show n+1-(s.x.length+(j+1))<n+1-(s.x.length+j)
    omega
   ·obtain⟨m,hm⟩: ∃m:Nat,m=s.x.length+j:=⟨_,rfl⟩
    have hS:s.x++List.replicate j 0=s.x++List.replicate (n+1-s.x.length) 0:=by
     rcases Nat.eq_zero_or_pos j with h0|h0
     ·subst h0;rw [show n+1-s.x.length=0 by omega]
     ·rw [show n+1-s.x.length=j by omega]
    have hnm:n<m:=by omega
    obtain⟨g,cap,hg⟩: ∃g cap,(Value.slice ao (s.x.length+j) c)= .slice (some ⟨g,0,none⟩) (s.x.length+j) cap:=by
     rcases HK.out.2 with⟨-,h0⟩|⟨g,cap,cur,h,-⟩
     ·rw [List.length_append,List.length_replicate]at h0;omega
     ·have e3:(s.x++List.replicate j (0:Int)).length=s.x.length+j:=by simp
      rw [e3]at h
      exact⟨g,cap,h⟩
    injection hg with hg1 hg2 hg3
    subst hg1 hg3
    obtain⟨cur,hrow,hcs,hNg⟩: ∃cur:Array Value,wr.heap[g]?=some (.cells cur 3 (0,0))/\n<cur.size/\N<=g:=by
     rcases HK.out.2 with⟨h,-⟩|⟨g',cap',cur,h,hB,hgg,h1,h2,h3,h4⟩
     ·cases h
     ·injection h with ha hb hc
      injection ha with ha
      injection ha with ha
      subst ha
      have e3:(s.x++List.replicate j (0:Int)).length=s.x.length+j:=by simp
      rw [e3]at h1
      exact⟨cur,hgg,by omega,hB⟩
    have hc:=cellOf hrow hcs
    have hf:wr.frozen? ⟨g,n,none⟩=false:=frozen_of_row _ _ _ _ _ hrow
    have hk:=HK.out
    unfold OwnI at hk
    have e3:(s.x++List.replicate j (0:Int)).length=s.x.length+j:=by simp
    rw [e3]at hk
    obtain⟨hst,hgr⟩:=hk.stored n (.int .i64 tt)
    have hown:OwnI (wr.setCell ⟨g,n,none⟩ (.int .i64 tt)) N (.slice (some ⟨g,0,none⟩) (s.x.length+j) c) (setN s.x n tt):=by
     unfold OwnI setN
     rw [<-hS,List.length_set,e3,List.map_set]
     exact hst
    have hlen:(setN s.x n tt).length=s.x.length+j:=by unfold setN;rw [<-hS,List.length_set,e3]
    obtain⟨ai,ci,hi1,hi2,hi3⟩:=hown.ints
    rw [hlen]at hi1 hi3
    injection hi1 with ha hb hc'
    subst ha hc'
    have hbl:Below N V (wr.setCell ⟨g,n,none⟩ (.int .i64 tt)):=HF.out.setCell (p:=⟨g,n,none⟩) hNg _
    have htr:=vtrim_any (setN s.x n tt) _ c _ hi2 (by rw [hlen];unfold maxLen;omega) (by rw [hlen];exact hi3)
    have hI2:=hi2.take (trimN (setN s.x n tt) (setN s.x n tt).length)
    change IntsAt _ _ (trimT (setN s.x n tt))at hI2
    have hT2:(trimT (setN s.x n tt)).length<=c:=by unfold trimT;rw [List.length_take];omega
    rw [hlen]at htr
    have HTR:=Lib.hid htr;have HI2:=Lib.hid hI2;have HT2:=Lib.hid hT2;have HBL:=Lib.hid hbl
    have hI0:(0:Int)<=(n:Int):=by omega
    have hI1:(n:Int)<((s.x.length+j:Nat):Int):=by omega
    generalize trimT (setN s.x n tt)=TX at *
    clear htr hI2 hT2 hbl hst hgr hk hown hi2 hS hi3 hlen hrow HK HF HO HB1 hm
    go_wp2_with fail
    generalize wr.setCell ⟨g,n,none⟩ (.int .i64 tt)=W3 at *
    refine HTR.out.mono ?_
    rintro e w4 ⟨rfl,hb4⟩
    have hV4:Below N V w4:=HBL.out.trans (hb4.mono (by rw [<-HN.out];exact HBL.out.size |> fun h=>by rw [HN.out]at h ⊢;exact h))
    have e4:=(hV4.block Z hZV).trans HE1.out
    have hI4:=HI2.out.below hb4
    have HI4:=Lib.hid hI4;have HE4:=Lib.hid e4;have HV4:=Lib.hid hV4
    have y1:=cellOf e4 (k:=1) (by simp [stRow])
    have y2:w4.frozen? ⟨Z,1,none⟩=false:=frozen_of_row _ _ _ _ _ e4
    clear hV4 e4 hI4 hb4 HTR HI2 HBL
    go_wp2_with fail
    go_ret
    have hY4:Below Y w (w4.setCell ⟨Z,1,none⟩ (.slice (some ⟨g,0,none⟩) TX.length c)):=(HBV.out.trans (HV4.out.mono (by omega))).setCell (p:=⟨Z,1,none⟩) (Nat.le_of_lt hYW) _
    rw [<-HY.out]at hY4
    refine⟨⟨Z,rfl,by rw [HY.out];exact Nat.le_of_lt hYW,some ⟨g,0,none⟩,c,yo,yc,to',tc,?_,?_⟩,hY4⟩
    ·rw [E.out];exact heap_setCell_same _ Z 1 _ _ _ HE4.out
    ·rw [E.out]
     exact⟨HI4.out.setFar HE4.out (by decide),HL0.out.y.below hY4,HL0.out.t.below hY4,HT2.out,HL0.out.yl,HL0.out.tl⟩
 ·by_cases k2:ak=2
  ·subst k2
   obtain⟨h2a,h2b⟩:=h2 rfl
   clear h1 h2 k1
   obtain⟨n,rfl⟩:=Int.eq_ofNat_of_zero_le h2a
   have E:Hid (R=⟨s.frame,s.x,s.y.set n tt,s.tries,s.mt,s.recv,s.frm⟩):=Lib.hid (by rw [HP.out,if_neg (by decide),if_pos rfl];rfl)
   clear HP
   go_wp2_with fail
   refine(vclone_any s.y yo yc V HLV.out.y (by omega)).mono ?_
   rintro e w1 ⟨⟨v,rfl,ho⟩,hb1⟩
   have hZV:=lt_of_row HE1.out
   generalize hN:V.heap.size=N at *
   have HN:=Lib.hid hN
   obtain⟨g,cap,cur,rfl,hNg,hgg,hg1,hg2,hg3,hg4⟩: ∃g cap cur,v= .slice (some ⟨g,0,none⟩) s.y.length cap/\N<=g/\w1.heap[g]?=some (.cells cur 3 (0,0))/\s.y.length<=cap/\cap<=maxLen/\cur.size=cap*1/\cur.toList.take (s.y.length*1)=s.y.map (Value.int .i64):=by
    rcases ho.2 with⟨-,h0⟩|h
    ·omega
    ·exact h
   have HO:=Lib.hid ho;have HB1:=Lib.hid hb1
   have e4:=(hb1.block Z hZV).trans HE1.out
   have HE4:=Lib.hid e4
   have y1:=cellOf e4 (k:=2) (by simp [stRow])
   have y2:w1.frozen? ⟨Z,2,none⟩=false:=frozen_of_row _ _ _ _ _ e4
   clear ho hb1 e4 c1' c2' z1 z2 hg4
   go_upto_region 11 with fail
   have hZg:g≠Z:=by omega
   have x1:=heap_setCell_same w1 Z 2 _ _ (.slice (some ⟨g,0,none⟩) s.y.length cap) HE4.out
   have x2:(w1.setCell ⟨Z,2,none⟩ (.slice (some ⟨g,0,none⟩) s.y.length cap)).heap[g]?=_:=(heap_setCell_other w1 ⟨Z,2,none⟩ g _ hZg).trans hgg
   have x3:OwnI (w1.setCell ⟨Z,2,none⟩ (.slice (some ⟨g,0,none⟩) s.y.length cap)) N (.slice (some ⟨g,0,none⟩) s.y.length cap) s.y:=ownsRow_setCell_below HO.out hZV _
   have x4:Below Y w (w1.setCell ⟨Z,2,none⟩ (.slice (some ⟨g,0,none⟩) s.y.length cap)):=(HBV.out.trans (HB1.out.mono (by omega))).setCell (p:=⟨Z,2,none⟩) (Nat.le_of_lt hYW) _
   have x5:(w1.setCell ⟨Z,2,none⟩ (.slice (some ⟨g,0,none⟩) s.y.length cap)).cell? ⟨Y,1,none⟩=some (.int .i64 (n:Int)):=by
    unfold World.cell?
    rw [heap_setCell_other w1 ⟨Z,2,none⟩ Y _ (by show Y≠Z;omega)]
    exact(HB1.out.cell (p:=⟨Y,1,none⟩) (by show Y<N;omega)).trans b1
   generalize w1.setCell ⟨Z,2,none⟩ (.slice (some ⟨g,0,none⟩) s.y.length cap)=W4 at *
   have X1:=Lib.hid x1;have X3:=Lib.hid x3;have X4:=Lib.hid x4
   have x6:W4.cell? ⟨Z,2,none⟩=some (.slice (some ⟨g,0,none⟩) s.y.length cap):=by rw [cell_of_row _ _ _ _ _ _ x1];rfl
   have hnc:n<cur.size:=by omega
   have hc:=cellOf x2 hnc
   have hf:W4.frozen? ⟨g,n,none⟩=false:=frozen_of_row _ _ _ _ _ x2
   clear y1 y2 x1 x2 x3 x4 HO HE4 hgg HB1
   go_wp2_with fail
   go_ret
   obtain⟨hst,hgr⟩:=World.ownsRow.stored X3.out n (.int .i64 tt)
   have hown:OwnI (W4.setCell ⟨g,n,none⟩ (.int .i64 tt)) N (.slice (some ⟨g,0,none⟩) s.y.length cap) (s.y.set n tt):=by
    unfold OwnI
    rw [List.length_set,List.map_set]
    exact hst
   obtain⟨ai,ci,hi1,hi2,hi3⟩:=hown.ints
   rw [List.length_set]at hi1 hi3
   injection hi1 with ha hb hc'
   subst ha hc'
   have hY4:Below Y w (W4.setCell ⟨g,n,none⟩ (.int .i64 tt)):=X4.out.setCell (p:=⟨g,n,none⟩) (by show Y<=g;omega) _
   rw [<-HY.out]at hY4
   refine⟨⟨Z,rfl,by rw [HY.out];exact Nat.le_of_lt hYW,xo,xc,some ⟨g,0,none⟩,cap,to',tc,?_,?_⟩,hY4⟩
   ·rw [E.out]
    refine(heap_setCell_other W4 ⟨g,n,none⟩ Z _ (by show Z≠g;omega)).trans (X1.out.trans ?_)
    unfold stRow
    simp only [List.length_set]
    rfl
   ·rw [E.out]
    exact⟨HL0.out.x.below hY4,hi2,HL0.out.t.below hY4,HL0.out.xl,by rw [List.length_set];exact hg1,HL0.out.tl⟩
  ·have E:Hid (R=s):=Lib.hid (by rw [HP.out,if_neg k1,if_neg k2])
   have t1:(ak==1)=false:=beq_eq_false_iff_ne.2 k1
   have t2:(ak==2)=false:=beq_eq_false_iff_ne.2 k2
   clear HP h1 h2 k1 k2 z1 z2 c1' c2' b1
   go_wp2_with fail
   go_ret
   have hY4:=HBV.out
   rw [<-HY.out]at hY4
   exact⟨⟨Z,rfl,by rw [HY.out];exact Nat.le_of_lt hYW,by rw [E.out];exact⟨xo,xc,yo,yc,to',tc,HE1.out,HLV.out⟩⟩,hY4⟩
def ptrV (b:Nat):Value:=.pointer (some ⟨b,0,none⟩)
def MOne (w:World) (mb:Nat) (pv av wv:Value) (g:Nat):Option VM->Prop
 |none=>pv= .pointer none/\av= .slice none 0 0/\wv= .int .i64 0
 |some m=>(∃b,pv=ptrV b/\StAt w b m.st)/\wv= .int .i64 m.wrong/\ ∃ps:List Nat,ps.length=m.all.length/\(∀j (h:j<ps.length) (h':j<m.all.length),StAt w ps[j] m.all[j])/\w.ownsRow (mb+1) 83 1 av m.all.length (ps.map ptrV)/\av.ownBlock=some g
structure MeetAt (w:World) (mb len:Nat) (M:Nat->Option VM) (cs:Array Value) (g:Nat->Nat):Prop where
 row:w.heap[mb]?=some (.cells cs 86 (0,0))
 size:cs.size=len*3
 inj: ∀j k,j<len->k<len->j≠k->M j≠none->M k≠none->g j≠g k
 one: ∀k,k<len-> ∃pv av wv,cs[k*3]?=some pv/\cs[k*3+1]?=some av/\cs[k*3+2]?=some wv/\MOne w mb pv av wv (g k) (M k)
def Only (a b:Nat) (w w':World):Prop:=w.heap.size<=w'.heap.size/\ ∀j,j<w.heap.size->j≠a->j≠b->w'.heap[j]?=w.heap[j]?
theorem Only.refl (a b:Nat) (w:World):Only a b w w:=⟨Nat.le_refl _,fun _ _ _ _=>rfl⟩
theorem Only.trans {a b:Nat} {u v w:World} (h:Only a b u v) (k:Only a b v w):Only a b u w:=
 ⟨Nat.le_trans h.1 k.1,fun j hj h1 h2=>(k.2 j (Nat.lt_of_lt_of_le hj h.1) h1 h2).trans (h.2 j hj h1 h2)⟩
theorem Only.below {a b:Nat} {w w':World} (h:Below w.heap.size w w'):Only a b w w':=⟨h.size,fun j hj _ _=>h.block j hj⟩
theorem Only.left {a b:Nat} {w w':World} (h:Only a a w w'):Only a b w w':=⟨h.1,fun j hj h1 _=>h.2 j hj h1 h1⟩
theorem Only.set {a b i:Nat} {w:World} {v:Value}:Only a b w (w.setCell ⟨a,i,none⟩ v):=
 ⟨by simp [World.setCell],fun j _ h1 _=>heap_setCell_other w ⟨a,i,none⟩ j v h1⟩
theorem Only.grown {a b:Nat} {w w':World} (h:w.grownBy w' (some b)):Only a b w w':=⟨h.size,fun j hj _ h2=>h.block j hj (fun e=>h2 (Option.some.inj e))⟩
theorem Only.keep {a b:Nat} {w w':World} (h:Only a b w w') {cs cs':Array Value} {fr fr':Nat × Nat} (ha:w.heap[a]?=some (.cells cs 86 fr)) (hb:b=a∨w.heap[b]?=some (.cells cs' 83 fr')):KeepT w w':=
 ⟨h.1,fun j c t f hj h1 h2=>(h.2 j (lt_of_row hj) (fun e=>by
   subst e;rw [ha]at hj;injection hj with hj;injection hj with _ hj _;exact h1 hj.symm) (fun e=>by
   subst e
   rcases hb with hb|hb
   ·subst hb;rw [ha]at hj;injection hj with hj;injection hj with _ hj _;exact h1 hj.symm
   ·rw [hb]at hj;injection hj with hj;injection hj with _ hj _;exact h2 hj.symm)).trans hj⟩
theorem MOne.stay {w w':World} {mb g:Nat} {pv av wv:Value} {mo:Option VM} (h:MOne w mb pv av wv g mo) (hk:KeepT w w') (hg:mo≠none->w'.heap[g]?=w.heap[g]?):MOne w' mb pv av wv g mo:=by
 cases mo with
 |none=>exact h
 |some m=>
  obtain⟨⟨b,e1,h1⟩,e2,ps,e3,h2,h3,h4⟩:=h
  refine⟨⟨b,e1,h1.keep hk⟩,e2,ps,e3,fun j a b=>(h2 j a b).keep hk,⟨h3.1,h3.2.imp id fun⟨g',cap,cur,a,b,c,d⟩=>⟨g',cap,cur,a,b,?_,d⟩⟩,h4⟩
  subst a
  have:g'=g:=by simpa [Value.ownBlock] using h4
  subst this
  rw [hg (by simp)];exact c
theorem worst_take (s:VSt) (l:List VSt) (w:Int) {j:Nat} (h:j<l.length):worstV s (l.take (j+1)) w=worse s (worstV s (l.take j) w) l[j]:=by
 unfold worstV
 rw [List.take_succ_eq_append_getElem h,List.foldl_append];rfl
theorem known_take (s:VSt) (l:List VSt) {j:Nat} (h:j<l.length):knownV s (l.take (j+1))=(knownV s (l.take j)||(clashV s l[j]==0)):=by
 unfold knownV
 rw [List.take_succ_eq_append_getElem h,List.any_append];simp
theorem MOne.lt {w:World} {mb g:Nat} {pv av wv:Value} {mo:Option VM} (h:MOne w mb pv av wv g mo) (hn:mo≠none):mb<g/\g<w.heap.size:=by
 cases mo with
 |none=>exact absurd rfl hn
 |some m=>
  obtain⟨-,-,ps,-,-,h3,h4⟩:=h
  have:=h3.lt g h4
  omega
theorem MeetAt.lt {w:World} {mb len:Nat} {M:Nat->Option VM} {cs:Array Value} {g:Nat->Nat} (h:MeetAt w mb len M cs g) {k:Nat} (hk:k<len) (hn:M k≠none):mb<g k/\g k<w.heap.size:=by
 obtain⟨pv,av,wv,-,-,-,h1⟩:=h.one k hk
 exact h1.lt hn
theorem MeetAt.upd {w w':World} {mb len k gk go:Nat} {M:Nat->Option VM} {cs cs':Array Value} {g:Nat->Nat} {pv av wv:Value} {m':VM} (h:MeetAt w mb len M cs g) (hk:k<len)
  (hrow:w'.heap[mb]?=some (.cells cs' 86 (0,0))) (hsz:cs'.size=cs.size) (hfar: ∀j,j≠k*3->j≠k*3+1->j≠k*3+2->cs'[j]?=cs[j]?)
  (e0:cs'[k*3]?=some pv) (e1:cs'[k*3+1]?=some av) (e2:cs'[k*3+2]?=some wv) (hone:MOne w' mb pv av wv gk (some m')) (hkeep:KeepT w w')
  (ho:Only mb go w w') (hgo: ∀j,j<len->j≠k->M j≠none->g j≠go) (hgk: ∀j,j<len->j≠k->M j≠none->g j≠gk):MeetAt w' mb len (fun j=>if j=k then some m' else M j) cs' (fun j=>if j=k then gk else g j):=by
 refine⟨hrow,hsz.trans h.size,fun i j hi hj hij=>?_,fun j hj=>?_⟩
 ·intro h1 h2
  by_cases c1:i=k
  ·have c2: ¬j=k:=fun e=>hij (c1.trans e.symm)
   rw [if_neg c2]at h2
   rw [if_pos c1,if_neg c2]
   exact(hgk j hj c2 h2).symm
  ·rw [if_neg c1]at h1
   by_cases c2:j=k
   ·rw [if_neg c1,if_pos c2]
    exact hgk i hi c1 h1
   ·rw [if_neg c2]at h2
    rw [if_neg c1,if_neg c2]
    exact h.inj i j hi hj hij h1 h2
 ·by_cases c:j=k
  ·subst c
   simp only [if_true]
   exact⟨pv,av,wv,e0,e1,e2,hone⟩
  ·simp only [c,if_false]
   obtain⟨p',a',v',f0,f1,f2,h1⟩:=h.one j hj
   refine⟨p',a',v',(hfar _ (by omega) (by omega) (by omega)).trans f0,(hfar _ (by omega) (by omega) (by omega)).trans f1,(hfar _ (by omega) (by omega) (by omega)).trans f2,h1.stay hkeep fun hn=>?_⟩
   have hl:=h.lt hj hn
   exact ho.2 _ hl.2 (by omega) (hgo j hj c hn)
theorem putM_some {M:Nat->Option VM} {k:Nat} {s:VSt} {m':VM} (h:addV (M k) s=some m'):putM M (k,s)=fun j=>if j=k then some m' else M j:=by
 funext j
 unfold putM
 by_cases c:j=k
 ·simp only [c,if_true];rw [h]
 ·simp only [c,if_false]
theorem infoPst:(Tryz.prog.info? 83).map (fun i=>(i.zero,i.size,i.bytes))=some (some (.pointer none),1,8):=by kernel_rfl
structure AddOk (mo:Option VM) (s:VSt):Prop where
 st: ∀m,mo=some m->VLen m.st
 all: ∀m,mo=some m-> ∀t∈m.all,VLen t
 num: ∀m,mo=some m->m.all.length<=1000000000000
 y: ∀m,mo=some m->worstV s m.all m.wrong=0->m.st.y.length=s.y.length
 wr: ∀m,mo=some m->ErrV m.wrong
def AddQ (mb len k:Nat) (M:Nat->Option VM) (s:VSt) (w:World) (e:Ending) (w':World):Prop:=
 e= .returned (.tuple #[])/\(∃cs' g',MeetAt w' mb len (putM M (k,s)) cs' g')/\KeepT w w'/\Below mb w w'
theorem vadd_none (mb len k q:Nat) (M:Nat->Option VM) (s:VSt) (cs:Array Value) (g:Nat->Nat) (w:World) (h:MeetAt w mb len M cs g) (hk:k<len) (hm:M k=none) (hs:StAt w q s):
  Calls Tryz.prog 53 #[.pointer (some ⟨mb,k*3,none⟩),.pointer (some ⟨q,0,none⟩)] w (AddQ mb len k M s w):=by
 obtain⟨pv,av,wv,f0,f1,f2,h1⟩:=h.one k hk
 rw [hm]at h1
 obtain⟨rfl,rfl,rfl⟩:=h1
 have c0:w.cell? ⟨mb,k*3,none⟩=some (.pointer none):=by rw [cell_of_row _ _ _ _ _ _ h.row];exact f0
 have c1:w.cell? ⟨mb,k*3+1,none⟩=some (.slice none 0 0):=by rw [cell_of_row _ _ _ _ _ _ h.row];exact f1
 have z0:w.frozen? ⟨mb,k*3,none⟩=false:=frozen_of_row _ _ _ _ _ h.row
 have z1:w.frozen? ⟨mb,k*3+1,none⟩=false:=frozen_of_row _ _ _ _ _ h.row
 have H:=Lib.hid h;have HS:=Lib.hid hs
 have HF:Hid (cs[k*3]?=some (.pointer none)/\cs[k*3+1]?=some (.slice none 0 0)/\cs[k*3+2]?=some (.int .i64 0)):=Lib.hid ⟨f0,f1,f2⟩
 have hml:=lt_of_row h.row
 clear h hs f0 f1 f2
 go_in
 go_wp2_with fail
 go_end0
 have hw1:Only mb mb w (((w.setCell ⟨mb,k*3,none⟩ (.pointer (some ⟨q,0,none⟩))).setCell ⟨mb,k*3+1,none⟩ (.slice (some ⟨w.heap.size,0,none⟩) 1 1)).alloc (.cells #[.pointer (some ⟨q,0,none⟩)] 83)):=
  (Only.set.trans Only.set).trans (Only.below ((Below.refl _ _).alloc (Nat.le_refl _) _))
 have hsz:((w.setCell ⟨mb,k*3,none⟩ (.pointer (some ⟨q,0,none⟩))).setCell ⟨mb,k*3+1,none⟩ (.slice (some ⟨w.heap.size,0,none⟩) 1 1)).heap.size=w.heap.size:=by simp [World.setCell]
 have hr1:=heap_setCell_same _ mb (k*3+1) _ _ (.slice (some ⟨w.heap.size,0,none⟩) 1 1) (heap_setCell_same w mb (k*3) _ _ (.pointer (some ⟨q,0,none⟩)) H.out.row)
 have hr2:=(Below.heap_alloc ((w.setCell ⟨mb,k*3,none⟩ (.pointer (some ⟨q,0,none⟩))).setCell ⟨mb,k*3+1,none⟩ (.slice (some ⟨w.heap.size,0,none⟩) 1 1)) (.cells #[.pointer (some ⟨q,0,none⟩)] 83) mb (by rw [hsz];exact hml)).trans hr1
 have hr3:=heap_alloc_new ((w.setCell ⟨mb,k*3,none⟩ (.pointer (some ⟨q,0,none⟩))).setCell ⟨mb,k*3+1,none⟩ (.slice (some ⟨w.heap.size,0,none⟩) 1 1)) (.cells #[.pointer (some ⟨q,0,none⟩)] 83)
 rw [hsz]at hr3
 have hbl:Below mb w (((w.setCell ⟨mb,k*3,none⟩ (.pointer (some ⟨q,0,none⟩))).setCell ⟨mb,k*3+1,none⟩ (.slice (some ⟨w.heap.size,0,none⟩) 1 1)).alloc (.cells #[.pointer (some ⟨q,0,none⟩)] 83)):=
  (((Below.refl mb w).setCell (p:=⟨mb,k*3,none⟩) (Nat.le_refl _) _).setCell (p:=⟨mb,k*3+1,none⟩) (Nat.le_refl _) _).alloc (by rw [hsz];exact Nat.le_of_lt hml) _
 generalize((w.setCell ⟨mb,k*3,none⟩ (.pointer (some ⟨q,0,none⟩))).setCell ⟨mb,k*3+1,none⟩ (.slice (some ⟨w.heap.size,0,none⟩) 1 1)).alloc (.cells #[.pointer (some ⟨q,0,none⟩)] 83)=w' at *
 have hkp:KeepT w w':=hw1.keep (cs':=#[]) (fr':=(0,0)) H.out.row (.inl rfl)
 have hs3:k*3+2<cs.size:=by rw [H.out.size];omega
 have hpm:putM M (k,s)=fun j=>if j=k then some ⟨s,[s],0⟩else M j:=putM_some (by rw [hm];rfl)
 suffices hup: ∃cs' g',MeetAt w' mb len (fun j=>if j=k then some ⟨s,[s],0⟩else M j) cs' g' from⟨rfl,by rw [hpm];exact hup,hkp,hbl⟩
 refine⟨_,_,H.out.upd (gk:=w.heap.size) (pv:=ptrV q) (av:=.slice (some ⟨w.heap.size,0,none⟩) 1 1) (wv:=.int .i64 0) hk hr2 (by simp) (fun j h1 h2 h3=>?_) ?_ ?_ ?_ ?_ hkp hw1 (fun j hj _ hn=>Nat.ne_of_gt (H.out.lt hj hn).1) (fun j hj _ hn=>Nat.ne_of_lt (H.out.lt hj hn).2)⟩
 ·rw [Array.getElem?_setIfInBounds,if_neg (by omega),Array.getElem?_setIfInBounds,if_neg (by omega)]
 ·rw [Array.getElem?_setIfInBounds,if_neg (by omega),Array.getElem?_setIfInBounds,if_pos rfl,if_pos (by omega)];rfl
 ·rw [Array.getElem?_setIfInBounds,if_pos rfl,if_pos (by simp;omega)]
 ·rw [Array.getElem?_setIfInBounds,if_neg (by omega),Array.getElem?_setIfInBounds,if_neg (by omega)];exact HF.out.2.2
 ·refine⟨⟨q,rfl,HS.out.keep hkp⟩,rfl,[q],rfl,fun j a b=>?_,⟨rfl,.inr ⟨w.heap.size,1,_,rfl,hml,hr3,Nat.le_refl _,by decide,rfl,rfl⟩⟩,rfl⟩
  have:j=0:=by simpa using a
  subst this
  exact HS.out.keep hkp
theorem vgrown_below {a b:World} (h:Below a.heap.size a b) (o:Option Nat):a.grownBy b o:=⟨h.os,h.tape,h.output,h.size,fun k hk _=>h.block k hk⟩
theorem set_same {a:Array Value} {i:Nat} {v:Value} (h:a[i]?=some v):a.setIfInBounds i v=a:=by
 apply Array.ext_getElem?
 intro j
 rw [Array.getElem?_setIfInBounds]
 by_cases c:i=j
 ·subst c
  rw [if_pos rfl]
  have:i<a.size:=by
   rcases Nat.lt_or_ge i a.size with d|d
   ·exact d
   ·rw [Array.getElem?_eq_none d]at h;cases h
  rw [if_pos this,h]
 ·rw [if_neg c]
theorem owns_slice {w:World} {B n:Nat} {T:TypeId} {v:Value} {xs:List Value} (h:w.ownsRow B T 1 v (n+1) xs): ∃g cap,v= .slice (some ⟨g,0,none⟩) (n+1) cap:=by
 rcases h.2 with⟨-,h0⟩|⟨g,cap,cur,rfl,-⟩
 ·omega
 ·exact⟨g,cap,rfl⟩
theorem add_end {w w':World} {mb len k gk gk' b':Nat} {M:Nat->Option VM} {s:VSt} {m m':VM} {cs:Array Value} {g:Nat->Nat} {W:Int} {av':Value} {ps':List Nat} (H:MeetAt w mb len M cs g) (hk:k<len) (hm:M k=some m) (hadd:addV (some m) s=some m') (hg:g k=gk)
  (hrow:w'.heap[mb]?=some (.cells (((cs.setIfInBounds (k*3+2) (.int .i64 W)).setIfInBounds (k*3+1) av').setIfInBounds (k*3) (ptrV b')) 86 (0,0))) (hst:StAt w' b' m'.st) (hW:m'.wrong=W) (hps:ps'.length=m'.all.length)
  (h3: ∀j (h:j<ps'.length) (h':j<m'.all.length),StAt w' ps'[j] m'.all[j]) (h4:w'.ownsRow (mb+1) 83 1 av' m'.all.length (ps'.map ptrV)) (h5:av'.ownBlock=some gk') (h6:gk'=gk∨w.heap.size<=gk') (h7:Only mb gk w w') (h8:Below mb w w') (hkp:KeepT w w'):
  AddQ mb len k M s w (.returned (.tuple #[])) w':=by
 have hpm:putM M (k,s)=fun j=>if j=k then some m' else M j:=putM_some (by rw [hm];exact hadd)
 have hs3:k*3+2<cs.size:=by rw [H.size];omega
 have hgo: ∀j,j<len->j≠k->M j≠none->g j≠gk:=fun j hj hjk hn=>by rw [<-hg];exact H.inj j k hj hk hjk hn (by rw [hm];simp)
 suffices hup: ∃cs' g',MeetAt w' mb len (fun j=>if j=k then some m' else M j) cs' g' from⟨rfl,by rw [hpm];exact hup,hkp,h8⟩
 refine⟨_,_,H.upd (gk:=gk') (pv:=ptrV b') (av:=av') (wv:=.int .i64 W) hk hrow (by simp) (fun j h1 h2 h3=>?_) ?_ ?_ ?_ ⟨⟨b',rfl,hst⟩,by rw [hW],ps',hps,h3,h4,h5⟩ hkp h7 hgo (fun j hj hjk hn=>?_)⟩
 ·rw [Array.getElem?_setIfInBounds,if_neg (by omega),Array.getElem?_setIfInBounds,if_neg (by omega),Array.getElem?_setIfInBounds,if_neg (by omega)]
 ·rw [Array.getElem?_setIfInBounds,if_pos rfl,if_pos (by simp;omega)]
 ·rw [Array.getElem?_setIfInBounds,if_neg (by omega),Array.getElem?_setIfInBounds,if_pos rfl,if_pos (by simp;omega)]
 ·rw [Array.getElem?_setIfInBounds,if_neg (by omega),Array.getElem?_setIfInBounds,if_neg (by omega),Array.getElem?_setIfInBounds,if_pos rfl,if_pos hs3]
 ·rcases h6 with e|e
  ·rw [e];exact hgo j hj hjk hn
  ·have:=(H.lt hj hn).2;omega
def AddMid (mb k gk:Nat) (cs:Array Value) (W:Int) (all:List VSt) (w wx:World):Prop:=
 ∃(av':Value) (gk':Nat) (ps':List Nat),wx.heap[mb]?=some (.cells ((cs.setIfInBounds (k*3+2) (.int .i64 W)).setIfInBounds (k*3+1) av') 86 (0,0))/\ps'.length=all.length /\
  (∀j (h:j<ps'.length) (h':j<all.length),StAt w ps'[j] all[j])/\wx.ownsRow (mb+1) 83 1 av' all.length (ps'.map ptrV)/\av'.ownBlock=some gk'/\(gk'=gk∨w.heap.size<=gk')/\Only mb gk w wx/\Below mb w wx
theorem vadd_some (mb len k q:Nat) (M:Nat->Option VM) (s:VSt) (m:VM) (cs:Array Value) (g:Nat->Nat) (w:World) (h:MeetAt w mb len M cs g) (hk:k<len) (hm:M k=some m) (hs:StAt w q s) (ls:VLen s) (ha:AddOk (M k) s):
  Calls Tryz.prog 53 #[.pointer (some ⟨mb,k*3,none⟩),.pointer (some ⟨q,0,none⟩)] w (AddQ mb len k M s w):=by
 obtain⟨pv,av,wv,f0,f1,f2,h1⟩:=h.one k hk
 rw [hm]at h1
 obtain⟨⟨b,rfl,hb⟩,rfl,ps,hps,hall,hown,hgk⟩:=h1
 have lm:=ha.st m hm;have la:=ha.all m hm;have lnm:=ha.num m hm;have ly:=ha.y m hm
 have H:=Lib.hid h;have HS:=Lib.hid hs;have HB:=Lib.hid hb;have HALL:=Lib.hid hall;have HLA:=Lib.hid la;have HLY:=Lib.hid ly
 have HF:Hid (cs[k*3]?=some (ptrV b)/\cs[k*3+1]?=some av/\cs[k*3+2]?=some (.int .i64 m.wrong)):=Lib.hid ⟨f0,f1,f2⟩
 have hml:=lt_of_row h.row
 have hgl:=hown.lt _ hgk
 obtain⟨gk,cap,cur,rfl,hg0,hg1,hg2,hg3,hg4,hg5⟩: ∃gk cap cur,av= .slice (some ⟨gk,0,none⟩) m.all.length cap/\mb+1<=gk/\w.heap[gk]?=some (.cells cur 83 (0,0))/\m.all.length<=cap/\cap<=maxLen/\cur.size=cap*1/\cur.toList.take (m.all.length*1)=ps.map ptrV:=by
  rcases hown.2 with⟨rfl,-⟩|hh
  ·cases hgk
  ·exact hh
 have HO:=Lib.hid hown
 have egk:g k=gk:=by simpa [Value.ownBlock] using hgk.symm
 have c0:w.cell? ⟨mb,k*3,none⟩=some (.pointer (some ⟨b,0,none⟩)):=by rw [cell_of_row _ _ _ _ _ _ h.row];exact f0
 have c1:w.cell? ⟨mb,k*3+1,none⟩=some (.slice (some ⟨gk,0,none⟩) m.all.length cap):=by rw [cell_of_row _ _ _ _ _ _ h.row];exact f1
 have hs3:k*3+2<cs.size:=by rw [h.size];omega
 have hcur: ∀j (hj:j<m.all.length),cur[j]?=some (ptrV (ps[j]'(by omega))):=fun j hj=>by
  have h5:(cur.toList.take (m.all.length*1))[j]?=(ps.map ptrV)[j]?:=by rw [hg5]
  rw [List.getElem?_take_of_lt (by omega),Array.getElem?_toList,List.getElem?_map,List.getElem?_eq_getElem (by omega)]at h5
  exact h5
 have HC:=Lib.hid hcur;have HG1:=Lib.hid hg1;have HROW:=Lib.hid h.row
 have ENE:Hid (addV (some m) s=some ⟨if worstV s m.all m.wrong=0 then joinS m.st s else m.st,if knownV s m.all=true then m.all else m.all++ [s],worstV s m.all m.wrong⟩):=Lib.hid rfl
 clear h hs hb hall la ly hown hgk f0 f1 f2 hg5 hcur hg1 ha hgl
 obtain⟨n,hn⟩: ∃n:Nat,n=m.all.length:=⟨_,rfl⟩
 go_in
 go_wp2_with fail
 go_loopw [4,27] (fun kv iv wr=> ∃j:Nat,j<=m.all.length/\iv= .int .i64 j/\kv= .bool (knownV s (m.all.take j))/\Hid (wr.heap[mb]?=some (.cells (cs.setIfInBounds (k*3+2) (.int .i64 (worstV s (m.all.take j) m.wrong))) 86 (0,0))/\Only mb mb w wr/\Below mb w wr)) (fun _ iv _=>m.all.length-(intOf iv).toNat)
 case atStart=>exact⟨0,Nat.zero_le _,rfl,rfl,Lib.hid ⟨by rw [List.take_zero];exact HROW.out.trans (congrArg (fun x=>some (Obj.cells x 86 (0,0))) (set_same HF.out.2.2).symm),Only.refl _ _ _,Below.refl _ _⟩⟩
 case round=>
  obtain⟨j,hj,rfl,rfl,HK⟩:=hrel
  rename World=>wr
  by_cases hlt:j<m.all.length
  ·as_aux_lemma=>
   have kp:KeepT w wr:=HK.out.2.1.keep (cs':=#[]) (fr':=(0,0)) HROW.out (.inl rfl)
   have hw:=HK.out.1
   have d0:wr.cell? ⟨gk,j,none⟩=some (.pointer (some ⟨ps[j]'(by omega),0,none⟩)):=by
    rw [cell_of_row _ _ _ _ _ _ ((HK.out.2.1.2 gk (lt_of_row HG1.out) (by omega) (by omega)).trans HG1.out)]
    exact HC.out j hlt
   have d2:wr.cell? ⟨mb,k*3+2,none⟩=some (.int .i64 (worstV s (m.all.take j) m.wrong)):=by
    rw [cell_of_row _ _ _ _ _ _ hw,Array.getElem?_setIfInBounds,if_pos rfl,if_pos hs3]
   have d3:wr.frozen? ⟨mb,k*3+2,none⟩=false:=frozen_of_row _ _ _ _ _ hw
   have hcl:=vclash_any q (ps[j]'(by omega)) s m.all[j] wr (HS.out.keep kp) ((HALL.out j (by omega) hlt).keep kp) ls (HLA.out _ (List.getElem_mem hlt))
   have KT:=known_take s m.all hlt
   have WT:=worst_take s m.all m.wrong hlt
   have HKT:=Lib.hid KT;have HWT:=Lib.hid WT
   clear KT WT
   have hwd:Hid (worse s (worstV s (m.all.take j) m.wrong) m.all[j]=if clashV s m.all[j]≠0/\(worstV s (m.all.take j) m.wrong=0∨clashV s m.all[j]<worstV s (m.all.take j) m.wrong)then clashV s m.all[j]else worstV s (m.all.take j) m.wrong):=Lib.hid rfl
   generalize ps[j]'(by omega)=pj at *
   generalize clashV s m.all[j]=ev at *
   generalize worse s (worstV s (m.all.take j) m.wrong) m.all[j]=wz at *
   generalize hwj:worstV s (m.all.take j) m.wrong=wj at *
   generalize knownV s (m.all.take j)=kb at *
   have HCL:=Lib.hid hcl
   have hI0:(0:Int)<=(j:Int):=by omega
   have hI1:(j:Int)<(m.all.length:Int):=by omega
   clear hcl hwj hw kp
   have fin: ∀(nq:Nat),wz=wj->Hid ((wr.drewN nq).heap[mb]?=some (.cells (cs.setIfInBounds (k*3+2) (.int .i64 (worstV s (m.all.take (j+1)) m.wrong))) 86 (0,0))/\Only mb mb w (wr.drewN nq)/\Below mb w (wr.drewN nq)):=fun nq e=>Lib.hid ⟨by rw [HWT.out,e];exact HK.out.1,⟨HK.out.2.1.1,HK.out.2.1.2⟩,below_drewN HK.out.2.2 nq⟩
   have fis: ∀(nq:Nat),wz=ev->Hid (((wr.drewN nq).setCell ⟨mb,k*3+2,none⟩ (.int .i64 ev)).heap[mb]?=some (.cells (cs.setIfInBounds (k*3+2) (.int .i64 (worstV s (m.all.take (j+1)) m.wrong))) 86 (0,0))/\Only mb mb w ((wr.drewN nq).setCell ⟨mb,k*3+2,none⟩ (.int .i64 ev))/\Below mb w ((wr.drewN nq).setCell ⟨mb,k*3+2,none⟩ (.int .i64 ev))):=fun nq e=>
    Lib.hid ⟨by rw [HWT.out,e];exact(heap_setCell_same (wr.drewN nq) mb (k*3+2) _ _ _ HK.out.1).trans (by rw [Array.setIfInBounds_setIfInBounds]),(show Only mb mb w (wr.drewN nq)from⟨HK.out.2.1.1,HK.out.2.1.2⟩).trans Only.set,(below_drewN HK.out.2.2 nq).setCell (p:=⟨mb,k*3+2,none⟩) (Nat.le_refl _) _⟩
   have FIN:=Lib.hid fin;have FIS:=Lib.hid fis
   clear fin fis
   by_cases e0:ev=0
   ·have t0:(ev==0)=true:=beq_iff_eq.2 e0
    have t1 : (ev != 0) = false := by rw [e0]; rfl
    have HW2:Hid (wz=wj):=Lib.hid (by rw [hwd.out,if_neg (fun x=>x.1 e0)])
    have HK2:Hid (knownV s (m.all.take (j+1))=true):=Lib.hid (by rw [HKT.out,t0,Bool.or_true])
    clear e0 hwd HKT
    cases kb with
    |true=>
     go_wp2_with fail
     refine HCL.out.mono ?_
     rintro e w1 ⟨rfl,nq,rfl⟩
     go_wp2_with fail
     exact⟨⟨j+1,hlt,by go_num,by rw [HK2.out],FIN.out nq HW2.out⟩,by simp [intOf];omega⟩
    |false=>
     go_wp2_with fail
     refine HCL.out.mono ?_
     rintro e w1 ⟨rfl,nq,rfl⟩
     go_wp2_with fail
     exact⟨⟨j+1,hlt,by go_num,by rw [HK2.out],FIN.out nq HW2.out⟩,by simp [intOf];omega⟩
   ·have t0:(ev==0)=false:=beq_eq_false_iff_ne.2 e0
    have t1 : (ev != 0) = true := by simpa using e0
    have HK2:Hid (knownV s (m.all.take (j+1))=kb):=Lib.hid (by rw [HKT.out,t0,Bool.or_false])
    clear HKT
    by_cases e1:wj=0
    ·have t2:(wj==0)=true:=beq_iff_eq.2 e1
     have HW2:Hid (wz=ev):=Lib.hid (by rw [hwd.out,if_pos ⟨e0,.inl e1⟩])
     clear e0 e1 hwd
     cases kb with
     |true=>
      go_wp2_with fail
      refine HCL.out.mono ?_
      rintro e w1 ⟨rfl,nq,rfl⟩
      go_wp2_with fail
      exact⟨⟨j+1,hlt,by go_num,by rw [HK2.out],FIS.out nq HW2.out⟩,by simp [intOf];omega⟩
     |false=>
      go_wp2_with fail
      refine HCL.out.mono ?_
      rintro e w1 ⟨rfl,nq,rfl⟩
      go_wp2_with fail
      exact⟨⟨j+1,hlt,by go_num,by rw [HK2.out],FIS.out nq HW2.out⟩,by simp [intOf];omega⟩
    ·have t2:(wj==0)=false:=beq_eq_false_iff_ne.2 e1
     by_cases e2:ev<wj
     ·have t3:decide (ev<wj)=true:=decide_eq_true e2
      have HW2:Hid (wz=ev):=Lib.hid (by rw [hwd.out,if_pos ⟨e0,.inr e2⟩])
      clear e0 e1 e2 hwd
      cases kb with
      |true=>
       go_wp2_with fail
       refine HCL.out.mono ?_
       rintro e w1 ⟨rfl,nq,rfl⟩
       go_wp2_with fail
       exact⟨⟨j+1,hlt,by go_num,by rw [HK2.out],FIS.out nq HW2.out⟩,by simp [intOf];omega⟩
      |false=>
       go_wp2_with fail
       refine HCL.out.mono ?_
       rintro e w1 ⟨rfl,nq,rfl⟩
       go_wp2_with fail
       exact⟨⟨j+1,hlt,by go_num,by rw [HK2.out],FIS.out nq HW2.out⟩,by simp [intOf];omega⟩
     ·have t3:decide (ev<wj)=false:=decide_eq_false e2
      have HW2:Hid (wz=wj):=Lib.hid (by rw [hwd.out,if_neg (fun x=>x.2.elim e1 e2)])
      clear e0 e1 e2 hwd
      cases kb with
      |true=>
       go_wp2_with fail
       refine HCL.out.mono ?_
       rintro e w1 ⟨rfl,nq,rfl⟩
       go_wp2_with fail
       exact⟨⟨j+1,hlt,by go_num,by rw [HK2.out],FIN.out nq HW2.out⟩,by simp [intOf];omega⟩
      |false=>
       go_wp2_with fail
       refine HCL.out.mono ?_
       rintro e w1 ⟨rfl,nq,rfl⟩
       go_wp2_with fail
       exact⟨⟨j+1,hlt,by go_num,by rw [HK2.out],FIN.out nq HW2.out⟩,by simp [intOf];omega⟩
  ·obtain rfl:j=m.all.length:=by omega
   rw [List.take_length]at HK ⊢
   have hw:=HK.out.1
   generalize hW:worstV s m.all m.wrong=W at *
   have HWW:=Lib.hid hW
   clear hW
   have EN:=ENE
   clear ENE
   have e1:wr.cell? ⟨mb,k*3+1,none⟩=some (.slice (some ⟨gk,0,none⟩) m.all.length cap):=by
    rw [cell_of_row _ _ _ _ _ _ hw,Array.getElem?_setIfInBounds,if_neg (by omega)];exact HF.out.2.1
   have e2:wr.cell? ⟨mb,k*3+2,none⟩=some (.int .i64 W):=by
    rw [cell_of_row _ _ _ _ _ _ hw,Array.getElem?_setIfInBounds,if_pos rfl,if_pos hs3]
   have z1:wr.frozen? ⟨mb,k*3+1,none⟩=false:=frozen_of_row _ _ _ _ _ hw
   have hgr:=(HK.out.2.1.2 gk (lt_of_row HG1.out) (by omega) (by omega)).trans HG1.out
   have hown:wr.ownsRow (mb+1) 83 1 (.slice (some ⟨gk,0,none⟩) m.all.length cap) m.all.length (ps.map ptrV):=
    ⟨HO.out.1,.inr ⟨gk,cap,cur,rfl,hg0,hgr,hg2,hg3,hg4,by
     rcases HO.out.2 with⟨hh,-⟩|⟨g',cap',cur',hh,-,hg',-,-,-,ht⟩
     ·cases hh
     ·injection hh with ha hb' hc'
      injection ha with ha
      injection ha with ha
      subst ha
      rw [HG1.out]at hg'
      injection hg' with hg'
      injection hg' with hg'
      subst hg'
      exact ht⟩⟩
   obtain⟨i0,hi,hz0,hz1,hz2⟩:=info_parts infoPst
   generalize hkb:knownV s m.all=kb at *
   have HKB:=Lib.hid hkb
   clear hkb
   cases kb
   case' true=>
    go_upto_region 13 with fail
    obtain⟨L,HA,EQ⟩: ∃L,Hid (AddMid mb k gk cs W L w wr)/\Hid (addV (some m) s=some ⟨if W=0 then joinS m.st s else m.st,L,W⟩):=⟨m.all,Lib.hid ⟨.slice (some ⟨gk,0,none⟩) m.all.length cap,gk,ps,by
     rw [set_same (a:=cs.setIfInBounds (k*3+2) (.int .i64 W)) (by rw [Array.getElem?_setIfInBounds,if_neg (by omega)];exact HF.out.2.1)];exact hw,hps,HALL.out,hown,rfl,.inl rfl,HK.out.2.1.left,HK.out.2.2⟩,Lib.hid (EN.out.trans (by rw [if_pos rfl]))⟩
    clear e1 e2 z1 hgr hown EN HKB hw HK
    generalize wr=W3 at *
   case' false=>
    have HOA:=Lib.hid (hown.alloc (.cells #[.pointer (some ⟨q,0,none⟩)] 83))
    have hms:mb+1<=(wr.alloc (.cells #[.pointer (some ⟨q,0,none⟩)] 83)).heap.size:=by have:=lt_of_row hw;simp;omega
    go_wp2_with (at_builtin;refine wpList_append_own_at _ rfl (.tmp 67) (.tmp 69) 84 rfl (mb+1) 83 i0 (.pointer none) 1 8 Tryz.underlying84 hi hz0 hz1 hz2 rfl (by decide) (.slice (some ⟨gk,0,none⟩) m.all.length cap) m.all.length (ps.map ptrV) rfl HOA.out ⟨wr.heap.size,0,none⟩ 1 1 [.pointer (some ⟨q,0,none⟩)] rfl rfl (one_news _ _ _) (by simp [Value.oneCell']) (by unfold maxLen;omega) (by omega) hms ?_)
    intro v' w2 ho2 hg2 hnil hloc
    have hrw:=(hg2.block mb (Nat.lt_of_lt_of_le (Nat.lt_succ_self mb) hms) (fun e=>absurd (Option.some.inj e) (by show¬mb=gk;omega))).trans ((Below.heap_alloc _ _ _ (lt_of_row hw)).trans hw)
    have HRW:=Lib.hid hrw
    have y1:=cellOf hrw (k:=k*3+1) (by simp;omega)
    have y2:w2.frozen? ⟨mb,k*3+1,none⟩=false:=frozen_of_row _ _ _ _ _ hrw
    have HO2:=Lib.hid ho2;have HG2:=Lib.hid hg2;have HLOC:=Lib.hid hloc
    obtain⟨g2,cap2,rfl⟩:=owns_slice ho2
    clear hrw ho2 hg2 hnil hloc
    go_upto_region 13 with fail
    have ho:Only mb gk w (w2.setCell ⟨mb,k*3+1,none⟩ (.slice (some ⟨g2,0,none⟩) (m.all.length+1) cap2)):=
     ((HK.out.2.1.left.trans (.below ((Below.refl _ _).alloc (Nat.le_refl _) _))).trans (Only.grown HG2.out)).trans Only.set
    have hbl:Below mb w (w2.setCell ⟨mb,k*3+1,none⟩ (.slice (some ⟨g2,0,none⟩) (m.all.length+1) cap2)):=
     ((HK.out.2.2.alloc (Nat.le_of_lt (lt_of_row hw)) _).grown HG2.out (by have:=lt_of_row hw;simp;omega) (fun x e=>by
      have:=Option.some.inj e;subst this;show mb<=gk;omega)).setCell (p:=⟨mb,k*3+1,none⟩) (Nat.le_refl _) _
    have hg2:g2=gk∨w.heap.size<=g2:=by
     rcases HLOC.out with e|e
     ·left;have:=Option.some.inj e;exact this
     ·right
      have h1:g2=wr.heap.size+1:=Option.some.inj e
      have h2:=HK.out.2.1.1
      omega
    have ho2:(w2.setCell ⟨mb,k*3+1,none⟩ (.slice (some ⟨g2,0,none⟩) (m.all.length+1) cap2)).ownsRow (mb+1) 83 1 (.slice (some ⟨g2,0,none⟩) (m.all.length+1) cap2) (m.all.length+1) ((ps++ [q]).map ptrV):=by
     rw [List.map_append]
     exact ownsRow_setCell_below HO2.out (Nat.lt_succ_self mb) _
    obtain⟨L,HA,EQ⟩: ∃L,Hid (AddMid mb k gk cs W L w (w2.setCell ⟨mb,k*3+1,none⟩ (.slice (some ⟨g2,0,none⟩) (m.all.length+1) cap2)))/\Hid (addV (some m) s=some ⟨if W=0 then joinS m.st s else m.st,L,W⟩):=
     ⟨m.all++ [s],Lib.hid ⟨_,g2,ps++ [q],heap_setCell_same _ _ _ _ _ _ HRW.out,by simp [hps],fun j h h'=>by
      by_cases c:j<m.all.length
      ·rw [List.getElem_append_left (by omega),List.getElem_append_left c];exact HALL.out j (by omega) c
      ·rw [List.getElem_append_right (by omega),List.getElem_append_right (by omega)];simp;exact HS.out,by rw [List.length_append];exact ho2,rfl,hg2,ho,hbl⟩,Lib.hid (EN.out.trans (by simp only [Bool.false_eq_true,if_false]))⟩
    clear e1 e2 z1 hgr hown EN HKB hw HK ho2 hg2 hbl ho HRW y1 y2 HO2 HG2 HLOC HOA hms
    generalize w2.setCell ⟨mb,k*3+1,none⟩ (.slice (some ⟨g2,0,none⟩) (m.all.length+1) cap2)=W3 at *
   all_goals
    obtain⟨av',gk',ps',r1,r2,r3,r4,r5,r6,r7,r8⟩:=HA.out
    have kp:KeepT w W3:=r7.keep HROW.out (.inr HG1.out)
    have HR1:=Lib.hid r1;have HR4:=Lib.hid r4;have HR7:=Lib.hid r7;have HR8:=Lib.hid r8;have HKP:=Lib.hid kp;have HR3:=Lib.hid r3
    have x0:W3.cell? ⟨mb,k*3,none⟩=some (.pointer (some ⟨b,0,none⟩)):=by
     rw [cell_of_row _ _ _ _ _ _ r1,Array.getElem?_setIfInBounds,if_neg (by omega),Array.getElem?_setIfInBounds,if_neg (by omega)];exact HF.out.1
    have x2:W3.cell? ⟨mb,k*3+2,none⟩=some (.int .i64 W):=by
     rw [cell_of_row _ _ _ _ _ _ r1,Array.getElem?_setIfInBounds,if_neg (by omega),Array.getElem?_setIfInBounds,if_pos rfl,if_pos hs3]
    clear r1 r3 r4 r7 r8 kp HA
    by_cases hw0:W=0
    ·have hjo:=vjoined_any b q m.st s W3 (HB.out.keep HKP.out) (HS.out.keep HKP.out) lm ls (HLY.out hw0)
     have HJO:=Lib.hid hjo
     have t0:(W==0)=true:=beq_iff_eq.2 hw0
     have EQ2:Hid (addV (some m) s=some ⟨joinS m.st s,L,W⟩):=Lib.hid (EQ.out.trans (by rw [if_pos hw0]))
     clear hw0 hjo EQ
     go_wp2_with fail
     refine HJO.out.mono ?_
     rintro e w5 ⟨⟨b5,rfl,hb5,hst5⟩,hbl5⟩
     have hr5:=(hbl5.block mb (lt_of_row HR1.out)).trans HR1.out
     have y0:=cellOf hr5 (k:=k*3) (by simp;omega)
     have y1:w5.frozen? ⟨mb,k*3,none⟩=false:=frozen_of_row _ _ _ _ _ hr5
     have HR5:=Lib.hid hr5;have HST5:=Lib.hid hst5;have HBL5:=Lib.hid hbl5
     clear hr5 hst5 hbl5 HJO
     go_wp2_with fail
     go_end0
     have hkp5:KeepT w (w5.setCell ⟨mb,k*3,none⟩ (.pointer (some ⟨b5,0,none⟩))):=((HR7.out.trans (.below HBL5.out)).trans Only.set).keep HROW.out (.inr HG1.out)
     have hks:KeepT w5 (w5.setCell ⟨mb,k*3,none⟩ (.pointer (some ⟨b5,0,none⟩))):=(Only.set (b:=mb)).keep (cs':=#[]) (fr':=(0,0)) HR5.out (.inl rfl)
     have hk35:KeepT W3 (w5.setCell ⟨mb,k*3,none⟩ (.pointer (some ⟨b5,0,none⟩))):=(KeepT.below HBL5.out).trans hks
     exact add_end H.out hk hm EQ2.out egk (heap_setCell_same _ _ _ _ _ _ HR5.out) (HST5.out.keep hks) rfl r2 (fun j h h'=>(HR3.out j h h').keep hkp5)
      (ownsRow_setCell_below (HR4.out.kept (vgrown_below HBL5.out none) (by rw [r5];simp)) (Nat.lt_succ_self mb) _) r5 r6 ((HR7.out.trans (.below HBL5.out)).trans Only.set)
      ((HR8.out.trans (HBL5.out.mono (Nat.le_of_lt (lt_of_row HR1.out)))).setCell (p:=⟨mb,k*3,none⟩) (Nat.le_refl _) _) hkp5
    ·have t0:(W==0)=false:=beq_eq_false_iff_ne.2 hw0
     have EQ2:Hid (addV (some m) s=some ⟨m.st,L,W⟩):=Lib.hid (EQ.out.trans (by rw [if_neg hw0]))
     clear hw0 EQ
     go_wp2_with fail
     go_end0
     refine add_end H.out hk hm EQ2.out egk ?_ (HB.out.keep HKP.out) rfl r2 (fun j h h'=>(HR3.out j h h').keep HKP.out) HR4.out r5 r6 HR7.out HR8.out HKP.out
     rw [set_same (v:=ptrV b) (by rw [Array.getElem?_setIfInBounds,if_neg (by omega),Array.getElem?_setIfInBounds,if_neg (by omega)];exact HF.out.1)]
     exact HR1.out
theorem vadd_any (mb len k q:Nat) (M:Nat->Option VM) (s:VSt) (cs:Array Value) (g:Nat->Nat) (w:World) (h:MeetAt w mb len M cs g) (hk:k<len) (hs:StAt w q s) (ls:VLen s) (ha:AddOk (M k) s):
  Calls Tryz.prog 53 #[.pointer (some ⟨mb,k*3,none⟩),.pointer (some ⟨q,0,none⟩)] w (AddQ mb len k M s w):=by
 cases hm:M k with
 |none=>exact vadd_none mb len k q M s cs g w h hk hm hs
 |some m=>exact vadd_some mb len k q M s m cs g w h hk hm hs ls ha
end Go.Proofs.YtepjanajflkakaaGreatDoor
