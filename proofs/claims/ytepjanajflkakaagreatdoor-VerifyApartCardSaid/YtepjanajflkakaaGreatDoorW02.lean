import Derived.Test.YtepjanajflkakaaGreatDoorW01
namespace Go.Proofs.YtepjanajflkakaaGreatDoor
open Go.RowKit
set_option linter.unusedVariables false
set_option linter.unusedSimpArgs false
set_option maxRecDepth 100000
set_option maxHeartbeats 0
def zA (s:VSt) (xo:Option Addr) (xc:Nat) (yo:Option Addr) (yc:Nat) (to':Option Addr) (tc:Nat):Array Value:=
 #[.int .i64 s.frame,.slice xo s.x.length xc,.slice yo s.y.length yc,.slice to' s.tries.length tc,.bool s.mt,.int .i64 s.recv,.int .i64 s.frm]
structure StLs (w:World) (s:VSt) (xo:Option Addr) (xc:Nat) (yo:Option Addr) (yc:Nat) (to':Option Addr) (tc:Nat):Prop where
 x:IntsAt w xo s.x
 y:IntsAt w yo s.y
 t:IntsAt w to' s.tries
 xl:s.x.length<=xc
 yl:s.y.length<=yc
 tl:s.tries.length<=tc
def StAt (w:World) (b:Nat) (s:VSt):Prop:= ∃xo xc yo yc to' tc,w.heap[b]?=some (.cells (zA s xo xc yo yc to' tc) 91 (0,0))/\StLs w s xo xc yo yc to' tc
theorem StLs.keep {w w':World} {s:VSt} {xo yo to':zzA} {xc yc tc:Nat} (h:StLs w s xo xc yo yc to' tc) (k:KeepT w w'):StLs w' s xo xc yo yc to' tc:=
 ⟨h.x.keep k,h.y.keep k,h.t.keep k,h.xl,h.yl,h.tl⟩
theorem StAt.keep {w w':World} {b:Nat} {s:VSt} (h:StAt w b s) (k:KeepT w w'):StAt w' b s:=by
 obtain⟨xo,xc,yo,yc,to',tc,hr,hl⟩:=h;exact⟨xo,xc,yo,yc,to',tc,k.2 b _ _ _ hr (by decide) (by decide),hl.keep k⟩
theorem StAt.below {w w':World} {b:Nat} {s:VSt} (h:StAt w b s) (k:Below w.heap.size w w'):StAt w' b s:=h.keep (.below k)
theorem StAt.lt {w:World} {b:Nat} {s:VSt} (h:StAt w b s):b<w.heap.size:=by
 obtain⟨_,_,_,_,_,_,hr,_⟩:=h;exact zb hr
structure VLen (s:VSt):Prop where
 x:s.x.length<=1000
 y:s.y.length<=10000
 t:s.tries.length<=1000000
theorem StAt.cells {w:World} {b:Nat} {s:VSt} (h:StAt w b s): ∃xo xc yo yc to' tc,w.cell? ⟨b,0,none⟩=some (.int .i64 s.frame)/\w.cell? ⟨b,1,none⟩=some (.slice xo s.x.length xc)/\w.cell? ⟨b,2,none⟩=some (.slice yo s.y.length yc) /\
  w.cell? ⟨b,3,none⟩=some (.slice to' s.tries.length tc)/\w.cell? ⟨b,4,none⟩=some (.bool s.mt)/\w.cell? ⟨b,5,none⟩=some (.int .i64 s.recv)/\w.cell? ⟨b,6,none⟩=some (.int .i64 s.frm)/\StLs w s xo xc yo yc to' tc:=by
 obtain⟨xo,xc,yo,yc,to',tc,hr,hl⟩:=h;refine⟨xo,xc,yo,yc,to',tc,?_,?_,?_,?_,?_,?_,?_,hl⟩<;>rw [zzq0 _ _ _ _ _ _ hr]<;>rfl
theorem IntsAt.heap {w w':World} {ao:zzA} {l:List Int} (h:IntsAt w ao l) (e:w'.heap=w.heap):IntsAt w' ao l:=by
 unfold IntsAt;rw [e];exact h
theorem zh0 {W w:World} (h:Below W.heap.size W w):W.heap.size<=w.heap.size/\ ∀b o,b<W.heap.size->w.cell? ⟨b,o,none⟩=W.cell? ⟨b,o,none⟩:=⟨h.size,fun b o hb=>h.cell (p:=⟨b,o,none⟩) hb⟩
theorem zfD (l m:List Int) (ao bo:zzA) (c d:Nat) (w:World) (hl:IntsAt w ao l) (hm:IntsAt w bo m) (b1:l.length<=1000000) (b2:m.length<=1000000):
  Calls Tryz.prog 129 #[.slice ao l.length c,.slice bo m.length d] w fun e w'=>e= .returned (.bool (decide (l=m)))/\ ∃q,w'=w.drewN q:=by
 by_cases hn:l.length=m.length
 ·rcases hl with rfl|⟨b,off,cs,fr,rfl,hb,hr⟩
  ·have hm0:m= []:=zzQ (by simpa using hn.symm)
   subst hm0;refine(Tryz.slices_Equal_int_empty ao bo c 0 d w (by omega)).mono ?_;rintro e w' ⟨rfl,rfl⟩;exact⟨rfl,0,rfl⟩
  ·rcases hm with rfl|⟨b',off',cs',fr',rfl,hb',hr'⟩
   ·have hm0:l= []:=zzQ (by simpa using hn)
    subst hm0;refine(Tryz.slices_Equal_int_empty (some ⟨b,off,none⟩) bo c 0 d w (by omega)).mono ?_;rintro e w' ⟨rfl,rfl⟩;exact⟨rfl,0,rfl⟩
   ·have g1: ∀j,j<l.length->w.cell? ⟨b,off+j,none⟩=some (.int .i64 (l.getD j 0)):=fun j hj=>by
     exact zz74
    have g2: ∀j,j<m.length->w.cell? ⟨b',off'+j,none⟩=some (.int .i64 (m.getD j 0)):=fun j hj=>by
     rw [zzq0 _ _ _ _ _ _ hb',hr' j hj,List.getD_eq_getElem?_getD,zzq4 hj];rfl
    refine(Tryz.slices_Equal_int b off l.length c b' off' m.length d l m w (zzL _) (zzL _) (by omega) (by omega) g1 g2).mono ?_;rintro e w' ⟨rfl,hq⟩;refine⟨?_,hq⟩;rw [List.take_length,List.take_length];congr 2;exact Bool.eq_iff_iff.2 (by simp)
 ·refine(Tryz.slices_Equal_int_lens ao bo l.length c m.length d w hn).mono ?_
  rintro e w' ⟨rfl,rfl⟩;refine⟨?_,0,rfl⟩;rw [decide_eq_false (fun h=>hn (by rw [h]))]
theorem zfb (n:Int) (w:World) (hn:0<=n/\n<=1000):
  Calls Tryz.prog 54 #[.int .i64 n] w fun e w'=>(∃b,e= .returned (.pointer (some ⟨b,0,none⟩))/\w.heap.size<=b/\StAt w' b (zcr n))/\Below w.heap.size w w':=by
 go_in;go_wp2_with fail;refine(zcS n w ⟨hn.1,by omega⟩).mono ?_;rintro e w1 ⟨⟨ao,c,rfl,hi,hc⟩,hb⟩;refine zzK3 hi hb hc fun HI HB HC=>?_;clear hi hb hc;go_wp2;go_ret;have hA:Below w1.heap.size w1 (w1.alloc (.cells #[.int .i64 (-1),.slice ao (zbC n).length c,.slice none 0 0,.slice none 0 0,.bool false,.int .i64 0,.int .i64 0] 91)):=zzE _ _;exact⟨⟨w1.heap.size,rfl,HB.out.size,ao,c,none,0,none,0,zzF _ _,HI.out.below hA,.nil _ _,.nil _ _,HC.out,zzL _,zzL _⟩,HB.out.trans (hA.mono HB.out.size)⟩
theorem zdR (b:Nat) (s:VSt) (n:Int) (w:World) (h:StAt w b s) (hn:0<=n/\n<=1000000) (hl:s.x.length<=1000000):
  Calls Tryz.prog 134 #[.pointer (some ⟨b,0,none⟩),.int .i64 n] w fun e w'=>e= .returned (.int .i64 (zcZ s.x n))/\w'=w:=by
 obtain⟨n,rfl⟩:=zzJ hn.1;obtain⟨xo,xc,yo,yc,to',tc,c0,c1,c2,c3,c4,c5,c6,hL⟩:=h.cells;have hx:=hL.x;have E:Hid (zcZ s.x (n:Int)=s.x.getD n 0):=zzH rfl;clear c0 c2 c3 c4 c5 c6 hL h;generalize hxs:s.x=xs at *;clear hxs;by_cases hlt:n<xs.length
 ·obtain⟨bx,off,rfl,hb,q0⟩:=hx.cell hlt
  generalize xs.getD n 0=v at *;clear hx;exact zz73
 ·have E2:Hid (zcZ xs (n:Int)=0):=zzH (by rw [E.out];exact zfu _ (by omega))
  clear hx E;go_in;go_wp2;go_ret;exact⟨zO E2.out.symm,rfl⟩
theorem zd5 {P:Program} {f:FuncId} {args:Array Value} {w:World} {q n:Nat} {v:Value}
  (h:Calls P f args (w.drewN (q+n)) fun e w'=>e= .returned v/\ ∃m,w'=(w.drewN (q+n)).drewN m):Calls P f args (w.drewN (q+n)) fun e w''=>e= .returned v/\ ∃m,w''=w.drewN (q+m):=
 h.mono fun _ _ ⟨he,m,hm⟩=>⟨he,n+m,by rw [hm,World.drewN_drewN,Nat.add_assoc]⟩
theorem zgZ {a b : Int} (h : a = b) : (a != b) = false := by rw [h]; simp
theorem zgD {a b : Int} (h : a ≠ b) : (a != b) = true := by simpa using h
theorem zir (p q:Nat) (s t:VSt) (w:World) (hs:StAt w p s) (ht:StAt w q t) (ls:VLen s) (lt:VLen t):
  Calls Tryz.prog 86 #[.pointer (some ⟨p,0,none⟩),.pointer (some ⟨q,0,none⟩)] w fun e w'=>e= .returned (.int .i64 (zJ s t))/\ ∃n,w'=w.drewN n:=by
 have HP:=zzH hs;have HQ:=zzH ht;obtain⟨xo,xc,yo,yc,to',tc,c0,c1,c2,c3,c4,c5,c6,hL⟩:=hs.cells;obtain⟨xo',xc',yo',yc',to2,tc',d0,d1,d2,d3,d4,d5,d6,hL'⟩:=ht.cells;have hT:=hL.t;have hT':=hL'.t;have l1:=ls.t;have l2:=lt.t;have HT:=zzH hT;have HT':=zzH hT';clear c1 c2 c4 d1 d2 d4 hL hL' hs ht ls lt hT hT';have E:Hid (zJ s t=if s.frame≠t.frame then 181 else if s.tries≠t.tries then 182 else if s.recv≠t.recv\/s.frm≠t.frm then 184 else 0):=zzH rfl;generalize zJ s t=R at *;generalize s.frame=f1 at *;generalize t.frame=f2 at *;generalize s.tries=t1 at *;generalize t.tries=t2 at *;generalize s.recv=r1 at *;generalize t.recv=r2 at *;generalize s.frm=g1 at *;generalize t.frm=g2 at *;by_cases h1:f1=f2
 ·have b1:=zgZ h1
  by_cases h2:t1=t2
  ·have b2:decide (t1=t2)=true:=zzT h2
   have hE: ∀wx:World,wx.heap=w.heap->Calls Tryz.prog 129 #[.slice to' t1.length tc,.slice to2 t2.length tc'] wx fun e w'=>e= .returned (.bool true)/\ ∃q,w'=wx.drewN q:=fun wx hx=>by
    exact zz76
   have HE:=zzH hE;clear hE b2;by_cases h3:r1=r2
   ·have b3:=zgZ h3
    by_cases h4:g1=g2
    ·have b4:=zgZ h4
     have E1:Hid (R=0):=zzH (by rw [E.out,if_neg (by simp [h1]),if_neg (by simp [h2]),if_neg (by simp [h3,h4])]);exact zz75
    ·have b4:=zgD h4
     have E1:Hid (R=184):=zzH (by rw [E.out,if_neg (by simp [h1]),if_neg (by simp [h2]),if_pos (by simp [h3,h4])]);exact zz75
   ·have b3:=zgD h3
    have E1:Hid (R=184):=zzH (by rw [E.out,if_neg (by simp [h1]),if_neg (by simp [h2]),if_pos (by simp [h3])]);clear h1 h2 h3 E;go_in;go_wp2_with fail;go_quiet (fail);go_wp2_with fail;go_quiet ((refine zd5 (HE.out _ ?_);rfl));exact zz109
  ·have b2:decide (t1=t2)=false:=zzD h2
   have hE: ∀wx:World,wx.heap=w.heap->Calls Tryz.prog 129 #[.slice to' t1.length tc,.slice to2 t2.length tc'] wx fun e w'=>e= .returned (.bool false)/\ ∃q,w'=wx.drewN q:=fun wx hx=>by
    exact zz76
   have HE:=zzH hE;have E1:Hid (R=182):=zzH (by rw [E.out,if_neg (by simp [h1]),if_pos h2]);clear hE b2 h1 h2 E;go_in;go_wp2_with fail;go_quiet (fail);go_wp2_with fail;go_quiet ((refine zd5 (HE.out _ ?_);rfl));go_wp2;go_ret;exact⟨zO E1.out.symm,by first|exact⟨_,rfl⟩|(simp only [World.drewN_drewN];exact⟨_,rfl⟩)⟩
 ·have b1:=zgD h1
  have E1:Hid (R=181):=zzH (by rw [E.out,if_pos h1]);clear h1 E;go_in;exact zz109
theorem zbT {w:World} {X k b o:Nat} {v:Value} (h:b≠X):(w.setCell ⟨X,k,none⟩ v).drew.cell? ⟨b,o,none⟩=w.cell? ⟨b,o,none⟩:=by
 show(w.setCell ⟨X,k,none⟩ v).cell? ⟨b,o,none⟩=_;unfold World.cell?;rw [zzq3 _ _ _ _ h]
theorem IntsAt.setFar {w:World} {ao:zzA} {l:List Int} {Y i:Nat} {v:Value} {cs:Array Value} {T:TypeId} {fr:Nat × Nat} (h:IntsAt w ao l) (hY:w.heap[Y]?=some (.cells cs T fr)) (hT:T≠3):IntsAt (w.setCell ⟨Y,i,none⟩ v) ao l:=
 h.imp id fun⟨b,off,cs',fr',e,hb,hr⟩=>⟨b,off,cs',fr',e,(zzq3 w ⟨Y,i,none⟩ b v (fun hx=>by
  have hx':b=Y:=hx;rw [hx',hY]at hb;exact hT (by injection hb with hb;injection hb))).trans hb,hr⟩
theorem zdS (l m:List Int) {k:Nat} (h1:k<l.length) (h2:k<m.length) (h:k<(zH l m).length):(zH l m)[k]=zK (l.getD k 0) (m.getD k 0):=by
 have:=zdt l m k;rw [List.getD_eq_getElem?_getD,zzq4 h]at this;exact this
theorem zhe (p q:Nat) (s t:VSt) (w:World) (hs:StAt w p s) (ht:StAt w q t) (ls:VLen s) (lt:VLen t) (hy:s.y.length=t.y.length):
  Calls Tryz.prog 87 #[.pointer (some ⟨p,0,none⟩),.pointer (some ⟨q,0,none⟩)] w fun e w'=>(∃b,e= .returned (.pointer (some ⟨b,0,none⟩))/\w.heap.size<=b/\StAt w' b (zbu s t))/\Below w.heap.size w w':=by
 have HP:=zzH hs;have HQ:=zzH ht;obtain⟨xo,xc,yo,yc,to',tc,c0,c1,c2,c3,c4,c5,c6,hL⟩:=hs.cells;obtain⟨xo',xc',yo',yc',to2,tc',d0,d1,d2,d3,d4,d5,d6,hL'⟩:=ht.cells;have HL:=zzH hL;have HL':=zzH hL';have l1:=ls.x;have l2:=lt.x;have l3:=ls.y;have l4:=lt.y;have l5:=ls.t;clear hs ht ls lt hL hL' d0 d3 d5 d6;refine zzK4 c1 d1 c2 d2 fun HC1 HD1 HC2 HD2=>?_;have hp:=HP.out.lt;have hq:=HQ.out.lt;have HE:Hid (zbu s t=⟨s.frame,zt (zH s.x t.x),zH s.y t.y,s.tries,s.mt&&t.mt,s.recv,s.frm⟩):=zzH rfl;generalize zbu s t=R at *;have hrow: ∀m:Bool,Below w.heap.size w (w.alloc (.cells #[.int .i64 s.frame,.slice none 0 0,.slice none 0 0,.slice to' s.tries.length tc,.bool m,.int .i64 s.recv,.int .i64 s.frm] 91)).drew:=fun m=>(zzE _ _).drew
 refine zzK3 (zh0 (zzR w.heap.size w).drew) (zh0 (hrow false)) (zh0 (hrow true)) fun SK0 SK1 SK2=>?_;clear hrow;go_in;go_upto_region 1 with fail;go_cut [5] (fun v wx=>v= .pointer (some ⟨w.heap.size,0,none⟩)/\Hid (wx.heap[w.heap.size]?=some (.cells #[.int .i64 s.frame,.slice none 0 0,.slice none 0 0,.slice to' s.tries.length tc,.bool (s.mt&&t.mt),.int .i64 s.recv,.int .i64 s.frm] 91 (0,0))/\Below w.heap.size w wx))
 case first=>
  as_aux_lemma=>
  generalize s.mt=m1 at *;generalize t.mt=m2 at *
  cases m1 with
  |false=>
   clear SK0 SK1 SK2;go_region;exact zz77
  |true=>
   cases m2 with
   |false=>
    first|go_region_held3 (fun w'=>w.heap.size<=w'.heap.size/\ ∀b o,b<w.heap.size->w'.cell? ⟨b,o,none⟩=w.cell? ⟨b,o,none⟩) (first|with_reducible exact SK0.out|with_reducible exact SK1.out) (fail)|fail
    exact zz77
   |true=>
    first|go_region_held3 (fun w'=>w.heap.size<=w'.heap.size/\ ∀b o,b<w.heap.size->w'.cell? ⟨b,o,none⟩=w.cell? ⟨b,o,none⟩) (first|with_reducible exact SK0.out|with_reducible exact SK2.out) (fail)|fail
    exact zz77
 case rest=>
  obtain⟨rfl,HW⟩:=hcut;rename World=>W
  clear SK0 SK1 SK2;have c1':=(HP.out.below HW.out.2).cells;have HB:=zzH HW.out.2;have q1:W.cell? ⟨p,1,none⟩=some (.slice xo s.x.length xc):=(HB.out.cell (p:=⟨p,1,none⟩) hp).trans c1;have q2:W.cell? ⟨q,1,none⟩=some (.slice xo' t.x.length xc'):=(HB.out.cell (p:=⟨q,1,none⟩) hq).trans d1;clear c1';go_wp2_with fail;go_region;obtain⟨n,hn⟩: ∃n:Nat,n=min s.x.length t.x.length:=⟨_,rfl⟩;have hmin:min (s.x.length:Int) (t.x.length:Int)=(n:Int):=by omega
  rw [hmin];have HN:=zzH hn;have hn1:n<=s.x.length:=by omega
  have hn2:n<=t.x.length:=by omega
  clear hmin hn;obtain⟨arr,ha,hmk⟩:=zgO n (by omega);have HA:=zzH ha;have hmkd:=hmk W.drew;clear hmk ha q1 q2 c1 c2 c3 c4 c5 c6 d1 d2 d4 c0;go_wp2_with fail;have hrow:((W.alloc (.cells arr 3)).drew).heap[W.heap.size]?=some (.cells arr 3 (0,0)):=zzF W _
  have hB1:Below W.heap.size W (W.alloc (.cells arr 3)).drew:=(zzE _ _).drew;have hBW:w.heap.size<W.heap.size:=zb HW.out.1;have e0:=(hB1.block _ hBW).trans HW.out.1;have hB2:=HB.out.trans (hB1.mono HB.out.size);generalize(W.alloc (.cells arr 3)).drew=W1 at *;refine zzK4 hrow e0 hB2 hBW fun HR HE0 HB2 HBW=>?_;clear hrow hB1 e0 hB2 hBW hmkd HW HB;generalize hX:W.heap.size=X at *;have HX:=zzH hX;clear hX;generalize hY:w.heap.size=Y at *;have HY:=zzH hY;clear hY;go_loopw [8,52] (fun _ iv wr=> ∃(k:Nat) (ar:Array Value),k<=n/\iv= .int .i64 k/\Hid (wr.heap[X]?=some (.cells ar 3 (0,0))/\ar.size=n/\HoldsI ar k (fun j=>zK (s.x.getD j 0) (t.x.getD j 0)))/\Hid (wr.heap[Y]?=W1.heap[Y]?/\Below Y w wr)) (fun _ iv _=>n-(intOf iv).toNat)
  case atStart=>exact⟨0,arr,zzZ _,rfl,zzH ⟨HR.out,HA.out,fun j hj=>absurd hj (zzC j)⟩,zzH ⟨rfl,HB2.out⟩⟩
  case round=>
   obtain⟨k,ar,hk,rfl,HK,HF⟩:=hrel;rename World=>wr
   by_cases hlt:k<n
   ·as_aux_lemma=>
    have hc:=zm HK.out.1 (k:=k) (by rw [HK.out.2.1];exact hlt);have hf:wr.frozen? ⟨X,k,none⟩=false:=zzq2 _ _ _ _ _ HK.out.1;have q1:wr.cell? ⟨p,1,none⟩=some (.slice xo s.x.length xc):=(HF.out.2.cell (p:=⟨p,1,none⟩) hp).trans HC1.out;have q2:wr.cell? ⟨q,1,none⟩=some (.slice xo' t.x.length xc'):=(HF.out.2.cell (p:=⟨q,1,none⟩) hq).trans HD1.out;obtain⟨bx,ox,hxo,hbx,z1⟩:=HL.out.x.cell (k:=k) (by omega);obtain⟨bx',ox',hxo',hbx',z2⟩:=HL'.out.x.cell (k:=k) (by omega);rw [HY.out]at hbx hbx'
    replace z1:=(HF.out.2.cell (p:=⟨bx,ox+k,none⟩) hbx).trans z1
    replace z2:=(HF.out.2.cell (p:=⟨bx',ox'+k,none⟩) hbx').trans z2
    have hYX:=HBW.out;have hK2:=HK.out.2.2.set (f:=fun j=>zK (s.x.getD j 0) (t.x.getD j 0)) (k:=k) (by rw [HK.out.2.1];exact hlt);have HK2:=zzH hK2;have hpr:p<wr.heap.size:=zzW hp (by rw [<-HY.out];exact HF.out.2.size);have hqr:q<wr.heap.size:=zzW hq (by rw [<-HY.out];exact HF.out.2.size);subst hxo hxo';clear hK2;have HZ1:=zzH z1;have HZ2:=zzH z2;generalize hv1:s.x.getD k 0=v1 at *;generalize hv2:t.x.getD k 0=v2 at *;have HV1:=zzH hv1;have HV2:=zzH hv2;have hI0:(0:Int)<=(k:Int):=by omega
    have hI1:(k:Int)<(s.x.length:Int):=by omega
    have hI2:(k:Int)<(t.x.length:Int):=by omega
    have hI3:(k:Int)<(n:Int):=by omega
    clear hv1 hv2;go_upto_region 7 with fail;have KS:Hid (wr.drew.cell? ⟨p,1,none⟩=some (.slice (some ⟨bx,ox,none⟩) s.x.length xc)/\wr.drew.cell? ⟨q,1,none⟩=some (.slice (some ⟨bx',ox',none⟩) t.x.length xc')/\wr.drew.cell? ⟨bx,ox+k,none⟩=some (.int .i64 v1)/\wr.drew.cell? ⟨bx',ox'+k,none⟩=some (.int .i64 v2)):=zzH ⟨q1,q2,z1,z2⟩
    have KT:Hid ((wr.setCell ⟨X,k,none⟩ (.int .i64 (zK v1 v2))).drew.cell? ⟨p,1,none⟩=some (.slice (some ⟨bx,ox,none⟩) s.x.length xc)/\(wr.setCell ⟨X,k,none⟩ (.int .i64 (zK v1 v2))).drew.cell? ⟨q,1,none⟩=some (.slice (some ⟨bx',ox',none⟩) t.x.length xc') /\
     (wr.setCell ⟨X,k,none⟩ (.int .i64 (zK v1 v2))).drew.cell? ⟨bx,ox+k,none⟩=some (.int .i64 v1)/\(wr.setCell ⟨X,k,none⟩ (.int .i64 (zK v1 v2))).drew.cell? ⟨bx',ox'+k,none⟩=some (.int .i64 v2)):=
     zzH ⟨(zbT (by omega)).trans q1,(zbT (by omega)).trans q2,(zbT (by omega)).trans z1,(zbT (by omega)).trans z2⟩
    first|go_region_held3 (fun w'=>w'.cell? ⟨p,1,none⟩=some (.slice (some ⟨bx,ox,none⟩) s.x.length xc)/\w'.cell? ⟨q,1,none⟩=some (.slice (some ⟨bx',ox',none⟩) t.x.length xc')/\w'.cell? ⟨bx,ox+k,none⟩=some (.int .i64 v1)/\w'.cell? ⟨bx',ox'+k,none⟩=some (.int .i64 v2)) (first|with_reducible exact KS.out|with_reducible exact KT.out)
     ((go_at_call 130;refine(zfT _ _ _).mono ?_;rintro e w1 ⟨rfl,rfl⟩))|fail
    go_wp2_with fail
    refine⟨⟨k+1,ar.setIfInBounds k (.int .i64 (zK v1 v2)),hlt,by go_num,zzH ⟨zzS _ _ _ _ _ _ HK.out.1,by rw [Array.size_setIfInBounds];exact HK.out.2.1,?_⟩,
     zzH ⟨(zzq3 wr ⟨X,k,none⟩ Y _ (Nat.ne_of_lt HBW.out)).trans HF.out.1,(HF.out.2.setCell (p:=⟨X,k,none⟩) (zzb HBW.out) _).drew⟩⟩,by simp [intOf];omega⟩
    exact HK2.out
   ·obtain rfl:k=n:=by omega
    have hlen:(zH s.x t.x).length=k:=by rw [zcP];exact HN.out.symm
    have hI:IntsAt wr (some ⟨X,0,none⟩) (zH s.x t.x):=.inr ⟨X,0,ar,(0,0),rfl,HK.out.1,fun j hj=>by
     rw [Nat.zero_add,HK.out.2.2 j (by omega),zdS s.x t.x (by omega) (by omega)]⟩
    have htr:=zd1 (zH s.x t.x) (some ⟨X,0,none⟩) k wr hI (by unfold maxLen;omega) (by omega);have hI2:=hI.take (zbl (zH s.x t.x) (zH s.x t.x).length);change IntsAt wr _ (zt (zH s.x t.x))at hI2;have hT2:(zt (zH s.x t.x)).length<=k:=by unfold zt;rw [List.length_take];omega
    rw [hlen]at htr;refine zzK3 htr hI2 hT2 fun HTR HI2 HT2=>?_;clear htr hI2 hI hlen hT2;generalize zt (zH s.x t.x)=TX at *;go_wp2_with fail;refine HTR.out.mono ?_;rintro e w1 ⟨rfl,hb1⟩;have hYr:Y<wr.heap.size:=zzW HBW.out (zzb (zb HK.out.1));have e1:w1.heap[Y]?=_:=(hb1.block Y hYr).trans (HF.out.1.trans HE0.out)
    have HE1:=zzH e1;have HI3:=zzH (HI2.out.below hb1);have HB3:Hid (Below Y w w1):=zzH (HF.out.2.trans (hb1.mono (by rw [<-HY.out];exact HF.out.2.size)));have z1:=zm e1 (k:=1) (by simp);have z2:=zm e1 (k:=2) (by simp);have z3:w1.frozen? ⟨Y,1,none⟩=false:=zzq2 _ _ _ _ _ e1;have z4:w1.frozen? ⟨Y,2,none⟩=false:=zzq2 _ _ _ _ _ e1;clear hb1 HTR HI2 HF HK HE0 z2 z4;have e2:=zzS w1 Y 1 _ _ (.slice (some ⟨X,0,none⟩) TX.length k) e1;clear e1;go_upto_region 10 with fail;have hB4:Below Y w (w1.setCell ⟨Y,1,none⟩ (.slice (some ⟨X,0,none⟩) TX.length k)):=HB3.out.setCell (p:=⟨Y,1,none⟩) (zzL _) _;have hI4:=HI3.out.setFar (Y:=Y) (i:=1) (v:=.slice (some ⟨X,0,none⟩) TX.length k) HE1.out (by decide);generalize w1.setCell ⟨Y,1,none⟩ (.slice (some ⟨X,0,none⟩) TX.length k)=W2 at *;have HI4:=zzH hI4;have HB4:=zzH hB4;obtain⟨m,hm⟩: ∃m:Nat,m=s.y.length:=⟨_,rfl⟩;have hm2:m=t.y.length:=hm.trans hy;have hm9:m<=10000:=by omega
    obtain⟨arr2,ha2,hmk2⟩:=zgO m (by omega);have HA2:=zzH ha2;have hmkd2:=hmk2 W2;have HM:=zzH hm;have HM2:=zzH hm2;have q3:W2.cell? ⟨p,2,none⟩=some (.slice yo m yc):=by rw [hm];exact(hB4.cell (p:=⟨p,2,none⟩) hp).trans HC2.out
    have hpY:p≠Y:=Nat.ne_of_lt hp;have z5:=zm e2 (k:=2) (by simp);have z6:W2.frozen? ⟨Y,2,none⟩=false:=zzq2 _ _ _ _ _ e2;have hY2:=zb e2;have HE2:=zzH e2;clear hI4 hB4 z1 z3 ha2 hmk2 hm hm2 e2 hYr;go_upto_region 11 with fail;have e3:=zzS W2 Y 2 _ _ (.slice (some ⟨W2.heap.size,0,none⟩) m m) HE2.out;have hsz:(W2.setCell ⟨Y,2,none⟩ (.slice (some ⟨W2.heap.size,0,none⟩) m m)).heap.size=W2.heap.size:=by simp [World.setCell]
    have hA:=(zzR (W2.setCell ⟨Y,2,none⟩ (.slice (some ⟨W2.heap.size,0,none⟩) m m)).heap.size (W2.setCell ⟨Y,2,none⟩ (.slice (some ⟨W2.heap.size,0,none⟩) m m))).alloc (zzL _) (.cells arr2 3);have e4:=(hA.block Y (by rw [hsz];exact hY2)).trans e3;have e5:=zzF (W2.setCell ⟨Y,2,none⟩ (.slice (some ⟨W2.heap.size,0,none⟩) m m)) (.cells arr2 3);rw [hsz]at e5
    have hS: ∀b cs fr,W2.heap[b]?=some (.cells cs 3 fr)->((W2.setCell ⟨Y,2,none⟩ (.slice (some ⟨W2.heap.size,0,none⟩) m m)).alloc (.cells arr2 3)).heap[b]?=some (.cells cs 3 fr)/\b<W2.heap.size:=fun b cs fr hb=>by
     have hbl:=zb hb;refine⟨(hA.block b (by rw [hsz];exact hbl)).trans ((zzq3 W2 ⟨Y,2,none⟩ b _ (fun hx=>?_)).trans hb),hbl⟩;have hx':b=Y:=hx;rw [hx',HE2.out]at hb;exact absurd (show(91:TypeId)=3 by injection hb with hb;injection hb) (by decide)
    have hB5:=(HB4.out.setCell (p:=⟨Y,2,none⟩) (zzL _) (.slice (some ⟨W2.heap.size,0,none⟩) m m)).trans (hA.mono (by rw [hsz];exact zzb hY2));have hs5:W2.heap.size<((W2.setCell ⟨Y,2,none⟩ (.slice (some ⟨W2.heap.size,0,none⟩) m m)).alloc (.cells arr2 3)).heap.size:=zb e5;generalize(W2.setCell ⟨Y,2,none⟩ (.slice (some ⟨W2.heap.size,0,none⟩) m m)).alloc (.cells arr2 3)=W3 at *;generalize hZ:W2.heap.size=Z at *;refine zzK6 hS e4 e5 hB5 hY2 hZ fun HS HE4 HE5 HB5 HYZ HZ=>?_;have q5:W3.cell? ⟨p,2,none⟩=some (.slice yo m yc):=by rw [HM.out];exact(hB5.cell (p:=⟨p,2,none⟩) hp).trans HC2.out
    clear hS e4 e5 hB5 e3 hsz hA hY2 hZ hs5 q3 z5 z6 hmkd2;go_wp2_with fail;go_loopw [9,93] (fun _ iv wr=> ∃(j:Nat) (ar:Array Value),j<=m/\iv= .int .i64 j/\Hid (wr.heap[Z]?=some (.cells ar 3 (0,0))/\ar.size=m/\HoldsI ar j (fun i=>zK (s.y.getD i 0) (t.y.getD i 0)))/\Hid (Below Z W3 wr)) (fun _ iv _=>m-(intOf iv).toNat)
    case atStart=>exact⟨0,arr2,zzZ _,rfl,zzH ⟨HE5.out,HA2.out,fun j hj=>absurd hj (zzC j)⟩,zzH (zzR _ _)⟩
    case round=>
     obtain⟨j,ar,hj,rfl,HK,HF⟩:=hrel;rename World=>wr
     have HFB:Hid (Below Y w wr):=zzH (HB5.out.trans (HF.out.mono (zzb HYZ.out)));have e6:=(HF.out.block Y HYZ.out).trans HE4.out;have HE6:=zzH e6;clear e6;by_cases hlt:j<m
     ·as_aux_lemma=>
      have hc:=zm HK.out.1 (k:=j) (by rw [HK.out.2.1];exact hlt);have hf:wr.frozen? ⟨Z,j,none⟩=false:=zzq2 _ _ _ _ _ HK.out.1;have y1:wr.cell? ⟨p,2,none⟩=some (.slice yo m yc):=by rw [HM.out];exact(HFB.out.cell (p:=⟨p,2,none⟩) hp).trans HC2.out
      have y2:wr.cell? ⟨q,2,none⟩=some (.slice yo' m yc'):=by rw [HM2.out];exact(HFB.out.cell (p:=⟨q,2,none⟩) hq).trans HD2.out
      have y3:wr.cell? ⟨Y,2,none⟩=some (.slice (some ⟨Z,0,none⟩) m m):=by rw [zzq0 _ _ _ _ _ _ HE6.out];rfl
      obtain⟨bx,ox,hxo,hbx,z1⟩:=HL.out.y.cell (k:=j) (by rw [<-HM.out];exact hlt);obtain⟨bx',ox',hxo',hbx',z2⟩:=HL'.out.y.cell (k:=j) (by rw [<-HM2.out];exact hlt);rw [HY.out]at hbx hbx'
      replace z1:=(HFB.out.cell (p:=⟨bx,ox+j,none⟩) hbx).trans z1
      replace z2:=(HFB.out.cell (p:=⟨bx',ox'+j,none⟩) hbx').trans z2
      have hYZ:=HYZ.out;have hK2:=HK.out.2.2.set (f:=fun i=>zK (s.y.getD i 0) (t.y.getD i 0)) (k:=j) (by rw [HK.out.2.1];exact hlt);have HK2:=zzH hK2;subst hxo hxo';clear hK2;generalize hv1:s.y.getD j 0=v1 at *;generalize hv2:t.y.getD j 0=v2 at *;have hI0:(0:Int)<=(j:Int):=by omega
      have hI3:(j:Int)<(m:Int):=by omega
      clear hv1 hv2;go_upto_region 14 with fail;have KS:Hid (wr.drew.cell? ⟨p,2,none⟩=some (.slice (some ⟨bx,ox,none⟩) m yc)/\wr.drew.cell? ⟨q,2,none⟩=some (.slice (some ⟨bx',ox',none⟩) m yc')/\wr.drew.cell? ⟨bx,ox+j,none⟩=some (.int .i64 v1)/\wr.drew.cell? ⟨bx',ox'+j,none⟩=some (.int .i64 v2)/\wr.drew.cell? ⟨Y,2,none⟩=some (.slice (some ⟨Z,0,none⟩) m m)):=zzH ⟨y1,y2,z1,z2,y3⟩
      have KT:Hid ((wr.setCell ⟨Z,j,none⟩ (.int .i64 (zK v1 v2))).drew.cell? ⟨p,2,none⟩=some (.slice (some ⟨bx,ox,none⟩) m yc)/\(wr.setCell ⟨Z,j,none⟩ (.int .i64 (zK v1 v2))).drew.cell? ⟨q,2,none⟩=some (.slice (some ⟨bx',ox',none⟩) m yc') /\
       (wr.setCell ⟨Z,j,none⟩ (.int .i64 (zK v1 v2))).drew.cell? ⟨bx,ox+j,none⟩=some (.int .i64 v1)/\(wr.setCell ⟨Z,j,none⟩ (.int .i64 (zK v1 v2))).drew.cell? ⟨bx',ox'+j,none⟩=some (.int .i64 v2)/\(wr.setCell ⟨Z,j,none⟩ (.int .i64 (zK v1 v2))).drew.cell? ⟨Y,2,none⟩=some (.slice (some ⟨Z,0,none⟩) m m)):=
       zzH ⟨(zbT (by omega)).trans y1,(zbT (by omega)).trans y2,(zbT (by omega)).trans z1,(zbT (by omega)).trans z2,(zbT (by omega)).trans y3⟩
      first|go_region_held3 (fun w'=>w'.cell? ⟨p,2,none⟩=some (.slice (some ⟨bx,ox,none⟩) m yc)/\w'.cell? ⟨q,2,none⟩=some (.slice (some ⟨bx',ox',none⟩) m yc')/\w'.cell? ⟨bx,ox+j,none⟩=some (.int .i64 v1)/\w'.cell? ⟨bx',ox'+j,none⟩=some (.int .i64 v2)/\w'.cell? ⟨Y,2,none⟩=some (.slice (some ⟨Z,0,none⟩) m m)) (first|with_reducible exact KS.out|with_reducible exact KT.out)
       ((go_at_call 130;refine(zfT _ _ _).mono ?_;rintro e w1 ⟨rfl,rfl⟩))|fail
      go_wp2_with fail
      refine⟨⟨j+1,ar.setIfInBounds j (.int .i64 (zK v1 v2)),hlt,by go_num,zzH ⟨zzS _ _ _ _ _ _ HK.out.1,by rw [Array.size_setIfInBounds];exact HK.out.2.1,HK2.out⟩,
       zzH (HF.out.setCell (p:=⟨Z,j,none⟩) (zzL _) _).drew⟩,by simp [intOf];omega⟩
     ·obtain rfl:j=m:=by omega
      go_wp2;go_ret;have hI6:IntsAt wr (some ⟨X,0,none⟩) TX:=HI4.out.imp id fun⟨b,off,cs,fr,e,hb,hr⟩=>⟨b,off,cs,fr,e,(HF.out.block b (HS.out b cs fr hb).2).trans (HS.out b cs fr hb).1,hr⟩
      have hlen:(zH s.y t.y).length=j:=by rw [zcP,<-HM.out,<-HM2.out,Nat.min_self]
      have hI7:IntsAt wr (some ⟨Z,0,none⟩) (zH s.y t.y):=.inr ⟨Z,0,ar,(0,0),rfl,HK.out.1,fun i hi=>by
       rw [hlen]at hi;rw [Nat.zero_add,HK.out.2.2 i hi,zdS s.y t.y (by rw [<-HM.out];exact hi) (by rw [<-HM2.out];exact hi)]⟩
      have hbl:Below w.heap.size w wr:=by rw [HY.out];exact HFB.out
      refine⟨⟨Y,rfl,Nat.le_of_eq HY.out,some ⟨X,0,none⟩,k,some ⟨Z,0,none⟩,j,to',tc,?_,?_⟩,hbl⟩
      ·rw [HE6.out,HE.out]
       unfold zA;simp only [hlen]
       rfl
      ·rw [HE.out]
       exact⟨hI6,hI7,HL.out.t.below hbl,HT2.out,Nat.le_of_eq hlen,HL.out.tl⟩
def zkY (w:World) (s:VSt) (e:Ending) (w':World):Prop:=(∃b,e= .returned (.pointer (some ⟨b,0,none⟩))/\w.heap.size<=b/\StAt w' b s)/\Below w.heap.size w w'
theorem zeW (p:Nat) (s:VSt) (w:World) (hs:StAt w p s):Calls Tryz.prog 138 #[.pointer (some ⟨p,0,none⟩)] w (zkY w (zda s)):=by
 obtain⟨xo,xc,yo,yc,to',tc,c0,c1,c2,c3,c4,c5,c6,hL⟩:=hs.cells;have HL:=zzH hL;have HA:Hid (zbC 1= [1]):=zzH rfl;clear hL hs;go_in;go_upto_region 2 with fail;have e0:=zzF w (.cells (zA s xo xc yo yc to' tc) 91);have hB:=(zzR w.heap.size w).alloc (zzL _) (.cells (zA s xo xc yo yc to' tc) 91);change (w.alloc (.cells #[.int .i64 s.frame,.slice xo s.x.length xc,.slice yo s.y.length yc,.slice to' s.tries.length tc,.bool s.mt,.int .i64 s.recv,.int .i64 s.frm] 91)).heap[w.heap.size]?=_ at e0
 change Below w.heap.size w (w.alloc (.cells #[.int .i64 s.frame,.slice xo s.x.length xc,.slice yo s.y.length yc,.slice to' s.tries.length tc,.bool s.mt,.int .i64 s.recv,.int .i64 s.frm] 91))at hB;generalize w.alloc (.cells (zzs s xo xc yo yc to' tc) 91)=W at *;have HB:=zzH hB;clear c0 c1 c2 c3 c4 c5 c6 hB;generalize hY:w.heap.size=Y at *;have HY:=zzH hY;clear hY;go_wp2_with fail;refine(zcS 1 W ⟨by decide,by decide⟩).mono ?_;rintro e w1 ⟨⟨ao,c,rfl,hi,hc⟩,hb1⟩;rw [HA.out]at hi hc;have e1:=(hb1.block Y (zb e0)).trans e0;refine zzK3 e1 hi hc fun HE1 HI HC=>?_;have HB1:Hid (Below Y w w1):=zzH (HB.out.trans (hb1.mono (by rw [<-HY.out];exact HB.out.size)));have z1:=zm e1 (k:=1) (by simp [zA]);have z2:w1.frozen? ⟨Y,1,none⟩=false:=zzq2 _ _ _ _ _ e1;have z3:=zm e1 (k:=4) (by simp [zA]);have z4:w1.frozen? ⟨Y,4,none⟩=false:=zzq2 _ _ _ _ _ e1;clear e0 e1 hi hc hb1;go_wp2;go_ret;have e2:=zzS _ Y 4 _ _ (.bool false) (zzS _ Y 1 _ _ (.slice ao (zbC 1).length c) HE1.out)
 have hbl:Below w.heap.size w ((w1.setCell ⟨Y,1,none⟩ (.slice ao (zbC 1).length c)).setCell ⟨Y,4,none⟩ (.bool false)):=by
  rw [HY.out];exact(HB1.out.setCell (p:=⟨Y,1,none⟩) (zzL _) _).setCell (p:=⟨Y,4,none⟩) (zzL _) _
 refine⟨⟨Y,rfl,Nat.le_of_eq HY.out,ao,c,yo,yc,to',tc,e2,?_⟩,hbl⟩;exact⟨(HI.out.setFar HE1.out (by decide)).setFar (zzS _ _ _ _ _ _ HE1.out) (by decide),HL.out.y.below hbl,HL.out.t.below hbl,HC.out,HL.out.yl,HL.out.tl⟩
def OwnI (w:World) (B:Nat) (v:Value) (l:List Int):Prop:=w.ownsRow B 3 1 v l.length (l.map (Value.int .i64))
theorem OwnI.ints {w:World} {B:Nat} {v:Value} {l:List Int} (h:OwnI w B v l): ∃ao c,v= .slice ao l.length c/\IntsAt w ao l/\l.length<=c:=by
 rcases h.2 with⟨rfl,h0⟩|⟨g,cap,cur,rfl,hB,hg,h1,h2,h3,h4⟩
 ·exact⟨none,0,by rw [h0],.inl (zzQ h0),Nat.le_of_eq h0⟩
 ·refine⟨_,_,rfl,.inr ⟨g,0,cur,(0,0),rfl,hg,fun j hj=>?_⟩,h1⟩
  have h5:(cur.toList.take (l.length*1))[j]?=(l.map (Value.int .i64))[j]?:=by rw [h4]
  rw [List.getElem?_take_of_lt (by omega),Array.getElem?_toList]at h5;rw [Nat.zero_add,h5,List.getElem?_map,zzq4 hj];rfl
theorem OwnI.mono {w:World} {B B':Nat} {v:Value} {l:List Int} (h:OwnI w B v l) (hB:B'<=B):OwnI w B' v l:=
 ⟨h.1,h.2.imp id fun⟨g,cap,cur,a,b,c⟩=>⟨g,cap,cur,a,zzY hB b,c⟩⟩
theorem zc4 (l:List Int) (ao:zzA) (c:Nat) (w:World) (h:IntsAt w ao l) (hl:l.length<=1000000):
  Calls Tryz.prog 36 #[.slice ao l.length c] w fun e w'=>(∃v,e= .returned v/\OwnI w' w.heap.size v l)/\Below w.heap.size w w':=by
 rcases h with rfl|⟨b,off,cs,fr,rfl,hb,hr⟩
 ·cases ao with
  |none=>
   refine(Tryz.slices_Clone_int_nil 0 c w).mono ?_;rintro e w' ⟨rfl,rfl⟩;exact⟨⟨_,rfl,World.ownsRow_nil _ _ _ _⟩,zzR _ _⟩
  |some a=>
   refine(Tryz.slices_Clone_int_zero a c w).mono ?_;rintro e w' ⟨v,rfl,ho,-,hb⟩;exact⟨⟨v,rfl,ho⟩,hb⟩
 ·have g1: ∀j,j<l.length->w.cell? ⟨b,off+j,none⟩=some (.int .i64 (l.getD j 0)):=fun j hj=>by
   exact zz74
  refine(Tryz.slices_Clone_int b off l.length c l w (zzL _) (by omega) g1).mono ?_;rintro e w' ⟨v,rfl,ho,-,hb⟩;rw [List.take_length]at ho;exact⟨⟨v,rfl,ho⟩,hb⟩
theorem zdF (w:World) (x:Value) (T:TypeId): ∀(j:Nat) (u:Value),([x]:List Value)[j]?=some u->(w.alloc (.cells #[x] T)).cell? ((⟨w.heap.size,0,none⟩:Addr).add j)=some u:=by
 intro j u hj
 cases j with
 |zero=>
  have:x=u:=by simpa using hj
  subst this;show(w.alloc (.cells #[x] T)).cell? ⟨w.heap.size,0+0,none⟩=some x;rw [zzq0 _ _ _ _ _ _ (heap_alloc_new w _)];rfl
 |succ j=>simp at hj
theorem zeF (p:Nat) (s:VSt) (a:RArg) (tt:Int) (w:World) (hs:StAt w p s) (ls:VLen s) (h1:a.kind=1->0<=a.n/\a.n<=255) (h2:a.kind=2->0<=a.n/\a.n<s.y.length):
  Calls Tryz.prog 137 #[.pointer (some ⟨p,0,none⟩),.agg #[.int .i64 a.kind,.int .i64 a.n],.int .i64 tt] w (zkY w (zch s a tt)):=by
 obtain⟨xo,xc,yo,yc,to',tc,c0,c1,c2,c3,c4,c5,c6,hL⟩:=hs.cells;have HL:=zzH hL;have lx:=ls.x;have ly:=ls.y;obtain⟨ak,an⟩:=a;simp only at h1 h2;have HP:Hid (zch s ⟨ak,an⟩ tt=if ak=1 then{s with x:=zt (zcH s.x an.toNat tt)}else if ak=2 then{s with y:=s.y.set an.toNat tt}else s):=zzH rfl;generalize zch s ⟨ak,an⟩ tt=R at *;clear ls;have hb0:=(zzR w.heap.size w).alloc (zzL _) (.cells #[.int .i64 ak,.int .i64 an] 42);have e0:=zzF w (.cells #[.int .i64 ak,.int .i64 an] 42);have hp:=hs.lt;refine zzK4 hL hL c1 c2 fun HL HL0 HC1 HC2=>?_;go_in;go_upto_region 1 with fail;generalize w.alloc (.cells #[.int .i64 ak,.int .i64 an] 42)=W at *
 replace c0:=(hb0.cell (p:=⟨p,0,none⟩) hp).trans c0
 replace c1:=(hb0.cell (p:=⟨p,1,none⟩) hp).trans c1
 replace c2:=(hb0.cell (p:=⟨p,2,none⟩) hp).trans c2
 replace c3:=(hb0.cell (p:=⟨p,3,none⟩) hp).trans c3
 replace c4:=(hb0.cell (p:=⟨p,4,none⟩) hp).trans c4
 replace c5:=(hb0.cell (p:=⟨p,5,none⟩) hp).trans c5
 replace c6:=(hb0.cell (p:=⟨p,6,none⟩) hp).trans c6
 have HB0:=zzH hb0;generalize hY:w.heap.size=Y at *;have HY:=zzH hY;have hYW:=zb e0;have HE0:=zzH e0;clear hL hs hb0 hY e0;have e1:=zzF W (.cells (zA s xo xc yo yc to' tc) 91);have hB:=(zzR W.heap.size W).alloc (zzL _) (.cells (zA s xo xc yo yc to' tc) 91);change (W.alloc (.cells #[.int .i64 s.frame,.slice xo s.x.length xc,.slice yo s.y.length yc,.slice to' s.tries.length tc,.bool s.mt,.int .i64 s.recv,.int .i64 s.frm] 91)).heap[W.heap.size]?=_ at e1
 change Below W.heap.size W (W.alloc (.cells #[.int .i64 s.frame,.slice xo s.x.length xc,.slice yo s.y.length yc,.slice to' s.tries.length tc,.bool s.mt,.int .i64 s.recv,.int .i64 s.frm] 91))at hB;go_upto_region 2 with fail;generalize W.alloc (.cells (zzs s xo xc yo yc to' tc) 91)=V at *;have HE1:=zzH e1;have HEV:=zzH ((hB.block Y hYW).trans HE0.out);have HBV:Hid (Below Y w V):=zzH (HB0.out.trans (hB.mono (zzb hYW)));have HLV:Hid (StLs V s xo xc yo yc to' tc):=zzH ⟨HL.out.x.below (by rw [HY.out];exact HBV.out),HL.out.y.below (by rw [HY.out];exact HBV.out),HL.out.t.below (by rw [HY.out];exact HBV.out),HL.out.xl,HL.out.yl,HL.out.tl⟩;have c1':=(HBV.out.cell (p:=⟨p,1,none⟩) hp).trans HC1.out;have c2':=(HBV.out.cell (p:=⟨p,2,none⟩) hp).trans HC2.out;clear HB0 HE0 HL hB e1 c0 c1 c2 c3 c4 c5 c6;generalize W.heap.size=Z at *;have b0:=zm HEV.out (k:=0) (by simp);have b1:=zm HEV.out (k:=1) (by simp);have z1:=zm HE1.out (k:=1) (by simp [zA]);have z2:=zm HE1.out (k:=2) (by simp [zA]);simp only [zzX2]at b0 b1;by_cases k1:ak=1
 ·subst k1
  obtain⟨h1a,h1b⟩:=h1 rfl;clear h1 h2;obtain⟨n,rfl⟩:=zzJ h1a;have E:Hid (R=⟨s.frame,zt (zcH s.x n tt),s.y,s.tries,s.mt,s.recv,s.frm⟩):=zzH (by rw [HP.out,if_pos rfl];rfl);clear HP;have hn:n<=255:=by omega
  obtain⟨i0,hi,hz0,hz1,hz2⟩:=info_parts zeq;go_upto_region 4 with fail;go_wp2_with fail;refine(zc4 s.x xo xc V HLV.out.x (by omega)).mono ?_;rintro e w1 ⟨⟨v,rfl,ho⟩,hb1⟩;have hZV:=zb HE1.out;generalize hN:V.heap.size=N at *;have HN:=zzH hN;obtain⟨ao,c,rfl,-,-⟩:=ho.ints;have HO:=zzH ho;have HB1:=zzH hb1;clear ho hb1 hN b0 c1' c2' z1 z2;go_wp2_with fail;go_loopw [8] (fun v wr=> ∃(j:Nat) (ao:zzA) (c:Nat),s.x.length+j<=s.x.length+n+1/\(0<j->s.x.length+j<=n+1)/\v= .slice ao (s.x.length+j) c/\Hid (OwnI wr N (.slice ao (s.x.length+j) c) (s.x++List.replicate j 0))/\Hid (Below N V wr)) (fun v _=>match v with|.slice _ k _=>n+1-k|_=>0)
  case atStart=>exact⟨0,ao,c,by omega,by omega,rfl,zzH (by rw [List.replicate_zero,List.append_nil];exact HO.out),HB1⟩
  case round=>
   obtain⟨j,ao,c,hj,hj2,rfl,HK,HF⟩:=hrel;rename World=>wr
   have b1':wr.cell? ⟨Y,1,none⟩=some (.int .i64 (n:Int)):=(HF.out.cell (p:=⟨Y,1,none⟩) (by show Y<N;omega)).trans b1;by_cases hlt:s.x.length+j<=n
   ·have HOA:Hid (OwnI (wr.alloc (.cells #[.int .i64 0] 3)) N (.slice ao (s.x.length+j) c) (s.x++List.replicate j 0)):=zzH (HK.out.alloc _)
    have hlen:(s.x++List.replicate j 0).length=s.x.length+j:=by simp
    have hNs:N<=wr.heap.size+1:=by rw [<-HN.out];exact Nat.le_succ_of_le (by rw [HN.out];exact HN.out▸HF.out.size)
    go_wp2_with (at_builtin;refine wpList_append_own _ rfl (.tmp 26) (.tmp 27) 38 rfl N 3 i0 (.int .i64 0) 1 8 Tryz.underlying38 hi hz0 hz1 hz2 rfl (by decide) _ _ _ rfl HOA.out ⟨wr.heap.size,0,none⟩ 1 1 [.int .i64 0] rfl rfl (zdF _ _ _) (by simp [Value.oneCell']) (by rw [hlen];unfold maxLen;omega) (by rw [hlen];omega) (by simpa using hNs) ?_;intro v' w2 ho2 hg2 _)
    have hown:OwnI w2 N v' (s.x++List.replicate (j+1) 0):=by
     have e1:(s.x++List.replicate (j+1) 0).length=(s.x++List.replicate j 0).length+1:=by simp;omega
     have e2:(s.x++List.replicate (j+1) (0:Int)).map (Value.int .i64)=(s.x++List.replicate j 0).map (Value.int .i64)++ [.int .i64 0]:=by rw [List.replicate_succ'];simp
     unfold OwnI;rw [e1,e2];exact ho2
    have hbl:Below N V w2:=((HF.out.alloc (by rw [<-HN.out];exact HN.out▸HF.out.size) _).grown hg2 (by simpa using hNs) fun k e=>(HOA.out.lt k e).1);obtain⟨ao',c',rfl,-,-⟩:=hown.ints;have e3:(s.x++List.replicate (j+1) (0:Int)).length=s.x.length+(j+1):=by simp
    rw [e3]at hown;rw [e3];refine⟨⟨j+1,ao',c',by omega,fun _=>by omega,rfl,zzH hown,zzH hbl⟩,?_⟩;show n+1-(s.x.length+(j+1))<n+1-(s.x.length+j);omega
   ·obtain⟨m,hm⟩: ∃m:Nat,m=s.x.length+j:=⟨_,rfl⟩
    have hS:s.x++List.replicate j 0=s.x++List.replicate (n+1-s.x.length) 0:=by
     rcases Nat.eq_zero_or_pos j with h0|h0
     ·subst h0;rw [show n+1-s.x.length=0 by omega]
     ·rw [show n+1-s.x.length=j by omega]
    have hnm:n<m:=by omega
    obtain⟨g,cap,hg⟩: ∃g cap,(Value.slice ao (s.x.length+j) c)= .slice (some ⟨g,0,none⟩) (s.x.length+j) cap:=by
     rcases HK.out.2 with⟨-,h0⟩|⟨g,cap,cur,h,-⟩
     ·rw [zzq16,List.length_replicate]at h0;omega
     ·have e3:(s.x++List.replicate j (0:Int)).length=s.x.length+j:=by simp
      rw [e3]at h;exact⟨g,cap,h⟩
    injection hg with hg1 hg2 hg3;subst hg1 hg3
    obtain⟨cur,hrow,hcs,hNg⟩: ∃cur:Array Value,wr.heap[g]?=some (.cells cur 3 (0,0))/\n<cur.size/\N<=g:=by
     rcases HK.out.2 with⟨h,-⟩|⟨g',cap',cur,h,hB,hgg,h1,h2,h3,h4⟩
     ·cases h
     ·injection h with ha hb hc
      injection ha with ha;injection ha with ha;subst ha;have e3:(s.x++List.replicate j (0:Int)).length=s.x.length+j:=by simp
      rw [e3]at h1;exact⟨cur,hgg,by omega,hB⟩
    have hc:=zm hrow hcs;have hf:wr.frozen? ⟨g,n,none⟩=false:=zzq2 _ _ _ _ _ hrow;have hk:=HK.out;unfold OwnI at hk;have e3:(s.x++List.replicate j (0:Int)).length=s.x.length+j:=by simp
    rw [e3]at hk;obtain⟨hst,hgr⟩:=hk.stored n (.int .i64 tt)
    have hown:OwnI (wr.setCell ⟨g,n,none⟩ (.int .i64 tt)) N (.slice (some ⟨g,0,none⟩) (s.x.length+j) c) (zcH s.x n tt):=by
     unfold OwnI zcH;rw [<-hS,List.length_set,e3,List.map_set];exact hst
    have hlen:(zcH s.x n tt).length=s.x.length+j:=by unfold zcH;rw [<-hS,List.length_set,e3]
    obtain⟨ai,ci,hi1,hi2,hi3⟩:=hown.ints;rw [hlen]at hi1 hi3;injection hi1 with ha hb hc';subst ha hc';have hbl:Below N V (wr.setCell ⟨g,n,none⟩ (.int .i64 tt)):=HF.out.setCell (p:=⟨g,n,none⟩) hNg _;have htr:=zd1 (zcH s.x n tt) _ c _ hi2 (by rw [hlen];unfold maxLen;omega) (by rw [hlen];exact hi3);have hI2:=hi2.take (zbl (zcH s.x n tt) (zcH s.x n tt).length);change IntsAt _ _ (zt (zcH s.x n tt))at hI2;have hT2:(zt (zcH s.x n tt)).length<=c:=by unfold zt;rw [List.length_take];omega
    rw [hlen]at htr;refine zzK4 htr hI2 hT2 hbl fun HTR HI2 HT2 HBL=>?_;have hI0:(0:Int)<=(n:Int):=by omega
    have hI1:(n:Int)<((s.x.length+j:Nat):Int):=by omega
    generalize zt (zcH s.x n tt)=TX at *;clear htr hI2 hT2 hbl hst hgr hk hown hi2 hS hi3 hlen hrow HK HF HO HB1 hm;go_wp2_with fail;generalize wr.setCell ⟨g,n,none⟩ (.int .i64 tt)=W3 at *;refine HTR.out.mono ?_;rintro e w4 ⟨rfl,hb4⟩;have hV4:Below N V w4:=HBL.out.trans (hb4.mono (by rw [<-HN.out];exact HBL.out.size |> fun h=>by rw [HN.out]at h ⊢;exact h));have e4:=(hV4.block Z hZV).trans HE1.out;have hI4:=HI2.out.below hb4;refine zzK3 hI4 e4 hV4 fun HI4 HE4 HV4=>?_;have y1:=zm e4 (k:=1) (by simp [zA]);have y2:w4.frozen? ⟨Z,1,none⟩=false:=zzq2 _ _ _ _ _ e4;clear hV4 e4 hI4 hb4 HTR HI2 HBL;go_wp2;go_ret;have hY4:Below Y w (w4.setCell ⟨Z,1,none⟩ (.slice (some ⟨g,0,none⟩) TX.length c)):=(HBV.out.trans (HV4.out.mono (by omega))).setCell (p:=⟨Z,1,none⟩) (zzb hYW) _;rw [<-HY.out]at hY4;refine⟨⟨Z,rfl,by rw [HY.out];exact zzb hYW,some ⟨g,0,none⟩,c,yo,yc,to',tc,?_,?_⟩,hY4⟩
    ·rw [E.out];exact zzS _ Z 1 _ _ _ HE4.out
    ·rw [E.out]
     exact⟨HI4.out.setFar HE4.out (by decide),HL0.out.y.below hY4,HL0.out.t.below hY4,HT2.out,HL0.out.yl,HL0.out.tl⟩
 ·by_cases k2:ak=2
  ·subst k2
   obtain⟨h2a,h2b⟩:=h2 rfl;clear h1 h2 k1;obtain⟨n,rfl⟩:=zzJ h2a;have E:Hid (R=⟨s.frame,s.x,s.y.set n tt,s.tries,s.mt,s.recv,s.frm⟩):=zzH (by rw [HP.out,if_neg (by decide),if_pos rfl];rfl);clear HP;go_wp2_with fail;refine(zc4 s.y yo yc V HLV.out.y (by omega)).mono ?_;rintro e w1 ⟨⟨v,rfl,ho⟩,hb1⟩;have hZV:=zb HE1.out;generalize hN:V.heap.size=N at *;have HN:=zzH hN
   obtain⟨g,cap,cur,rfl,hNg,hgg,hg1,hg2,hg3,hg4⟩: ∃g cap cur,v= .slice (some ⟨g,0,none⟩) s.y.length cap/\N<=g/\w1.heap[g]?=some (.cells cur 3 (0,0))/\s.y.length<=cap/\cap<=maxLen/\cur.size=cap*1/\cur.toList.take (s.y.length*1)=s.y.map (Value.int .i64):=by
    rcases ho.2 with⟨-,h0⟩|h
    ·omega
    ·exact h
   have HO:=zzH ho;have HB1:=zzH hb1;have e4:=(hb1.block Z hZV).trans HE1.out;have HE4:=zzH e4;have y1:=zm e4 (k:=2) (by simp [zA]);have y2:w1.frozen? ⟨Z,2,none⟩=false:=zzq2 _ _ _ _ _ e4;clear ho hb1 e4 c1' c2' z1 z2 hg4;go_upto_region 11 with fail;have hZg:g≠Z:=by omega
   have x1:=zzS w1 Z 2 _ _ (.slice (some ⟨g,0,none⟩) s.y.length cap) HE4.out;have x2:(w1.setCell ⟨Z,2,none⟩ (.slice (some ⟨g,0,none⟩) s.y.length cap)).heap[g]?=_:=(zzq3 w1 ⟨Z,2,none⟩ g _ hZg).trans hgg
   have x3:OwnI (w1.setCell ⟨Z,2,none⟩ (.slice (some ⟨g,0,none⟩) s.y.length cap)) N (.slice (some ⟨g,0,none⟩) s.y.length cap) s.y:=ownsRow_setCell_below HO.out hZV _;have x4:Below Y w (w1.setCell ⟨Z,2,none⟩ (.slice (some ⟨g,0,none⟩) s.y.length cap)):=(HBV.out.trans (HB1.out.mono (by omega))).setCell (p:=⟨Z,2,none⟩) (zzb hYW) _
   have x5:(w1.setCell ⟨Z,2,none⟩ (.slice (some ⟨g,0,none⟩) s.y.length cap)).cell? ⟨Y,1,none⟩=some (.int .i64 (n:Int)):=by
    unfold World.cell?;rw [zzq3 w1 ⟨Z,2,none⟩ Y _ (by show Y≠Z;omega)];exact(HB1.out.cell (p:=⟨Y,1,none⟩) (by show Y<N;omega)).trans b1
   generalize w1.setCell ⟨Z,2,none⟩ (.slice (some ⟨g,0,none⟩) s.y.length cap)=W4 at *;refine zzK3 x1 x3 x4 fun X1 X3 X4=>?_;have x6:W4.cell? ⟨Z,2,none⟩=some (.slice (some ⟨g,0,none⟩) s.y.length cap):=by rw [zzq0 _ _ _ _ _ _ x1];rfl
   have hnc:n<cur.size:=by omega
   have hc:=zm x2 hnc;have hf:W4.frozen? ⟨g,n,none⟩=false:=zzq2 _ _ _ _ _ x2;clear y1 y2 x1 x2 x3 x4 HO HE4 hgg HB1;go_wp2;go_ret;obtain⟨hst,hgr⟩:=World.ownsRow.stored X3.out n (.int .i64 tt)
   have hown:OwnI (W4.setCell ⟨g,n,none⟩ (.int .i64 tt)) N (.slice (some ⟨g,0,none⟩) s.y.length cap) (s.y.set n tt):=by
    unfold OwnI;rw [List.length_set,List.map_set];exact hst
   obtain⟨ai,ci,hi1,hi2,hi3⟩:=hown.ints;rw [List.length_set]at hi1 hi3;injection hi1 with ha hb hc';subst ha hc';have hY4:Below Y w (W4.setCell ⟨g,n,none⟩ (.int .i64 tt)):=X4.out.setCell (p:=⟨g,n,none⟩) (by show Y<=g;omega) _;rw [<-HY.out]at hY4;refine⟨⟨Z,rfl,by rw [HY.out];exact zzb hYW,xo,xc,some ⟨g,0,none⟩,cap,to',tc,?_,?_⟩,hY4⟩
   ·rw [E.out]
    refine(zzq3 W4 ⟨g,n,none⟩ Z _ (by show Z≠g;omega)).trans (X1.out.trans ?_);unfold zA;simp only [List.length_set]
    rfl
   ·rw [E.out]
    exact⟨HL0.out.x.below hY4,hi2,HL0.out.t.below hY4,HL0.out.xl,by rw [List.length_set];exact hg1,HL0.out.tl⟩
  ·have E:Hid (R=s):=zzH (by rw [HP.out,if_neg k1,if_neg k2])
   have t1:(ak==1)=false:=zzB.2 k1;have t2:(ak==2)=false:=zzB.2 k2;clear HP h1 h2 k1 k2 z1 z2 c1' c2' b1;go_wp2;go_ret;have hY4:=HBV.out;rw [<-HY.out]at hY4;exact⟨⟨Z,rfl,by rw [HY.out];exact zzb hYW,by rw [E.out];exact⟨xo,xc,yo,yc,to',tc,HE1.out,HLV.out⟩⟩,hY4⟩
def zce (b:Nat):Value:=.pointer (some ⟨b,0,none⟩)
def MOne (w:World) (mb:Nat) (pv av wv:Value) (g:Nat):Option VM->Prop
 |none=>pv= .pointer none/\av= .slice none 0 0/\wv= .int .i64 0
 |some m=>(∃b,pv=zce b/\StAt w b m.st)/\wv= .int .i64 m.wrong/\ ∃ps:List Nat,ps.length=m.all.length/\(∀j (h:j<ps.length) (h':j<m.all.length),StAt w ps[j] m.all[j])/\w.ownsRow (mb+1) 83 1 av m.all.length (ps.map zce)/\av.ownBlock=some g
structure MeetAt (w:World) (mb len:Nat) (M:Nat->Option VM) (cs:Array Value) (g:Nat->Nat):Prop where
 row:w.heap[mb]?=some (.cells cs 86 (0,0))
 size:cs.size=len*3
 inj: ∀j k,j<len->k<len->j≠k->M j≠none->M k≠none->g j≠g k
 one: ∀k,k<len-> ∃pv av wv,cs[k*3]?=some pv/\cs[k*3+1]?=some av/\cs[k*3+2]?=some wv/\MOne w mb pv av wv (g k) (M k)
def Only (a b:Nat) (w w':World):Prop:=w.heap.size<=w'.heap.size/\ ∀j,j<w.heap.size->j≠a->j≠b->w'.heap[j]?=w.heap[j]?
theorem Only.refl (a b:Nat) (w:World):Only a b w w:=⟨zzL _,fun _ _ _ _=>rfl⟩
theorem Only.trans {a b:Nat} {u v w:World} (h:Only a b u v) (k:Only a b v w):Only a b u w:=
 ⟨zzY h.1 k.1,fun j hj h1 h2=>(k.2 j (zzW hj h.1) h1 h2).trans (h.2 j hj h1 h2)⟩
theorem Only.below {a b:Nat} {w w':World} (h:Below w.heap.size w w'):Only a b w w':=⟨h.size,fun j hj _ _=>h.block j hj⟩
theorem Only.left {a b:Nat} {w w':World} (h:Only a a w w'):Only a b w w':=⟨h.1,fun j hj h1 _=>h.2 j hj h1 h1⟩
theorem Only.set {a b i:Nat} {w:World} {v:Value}:Only a b w (w.setCell ⟨a,i,none⟩ v):=
 ⟨by simp [World.setCell],fun j _ h1 _=>zzq3 w ⟨a,i,none⟩ j v h1⟩
theorem Only.grown {a b:Nat} {w w':World} (h:w.grownBy w' (some b)):Only a b w w':=⟨h.size,fun j hj _ h2=>h.block j hj (fun e=>h2 (zzf e))⟩
theorem Only.keep {a b:Nat} {w w':World} (h:Only a b w w') {cs cs':Array Value} {fr fr':Nat × Nat} (ha:w.heap[a]?=some (.cells cs 86 fr)) (hb:b=a\/w.heap[b]?=some (.cells cs' 83 fr')):KeepT w w':=
 ⟨h.1,fun j c t f hj h1 h2=>(h.2 j (zb hj) (fun e=>by
   subst e;rw [ha]at hj;injection hj with hj;injection hj with _ hj _;exact h1 hj.symm) (fun e=>by
   subst e;rcases hb with hb|hb
   ·subst hb;rw [ha]at hj;injection hj with hj;injection hj with _ hj _;exact h1 hj.symm
   ·rw [hb]at hj;injection hj with hj;injection hj with _ hj _;exact h2 hj.symm)).trans hj⟩
theorem MOne.stay {w w':World} {mb g:Nat} {pv av wv:Value} {mo:Option VM} (h:MOne w mb pv av wv g mo) (hk:KeepT w w') (hg:mo≠none->w'.heap[g]?=w.heap[g]?):MOne w' mb pv av wv g mo:=by
 cases mo with
 |none=>exact h
 |some m=>
  obtain⟨⟨b,e1,h1⟩,e2,ps,e3,h2,h3,h4⟩:=h;refine⟨⟨b,e1,h1.keep hk⟩,e2,ps,e3,fun j a b=>(h2 j a b).keep hk,⟨h3.1,h3.2.imp id fun⟨g',cap,cur,a,b,c,d⟩=>⟨g',cap,cur,a,b,?_,d⟩⟩,h4⟩;subst a;have:g'=g:=by simpa [Value.ownBlock] using h4
  subst this;rw [hg (by simp)];exact c
theorem zik (s:VSt) (l:List VSt) (w:Int) {j:Nat} (h:j<l.length):zn s (l.take (j+1)) w=zbK s (zn s (l.take j) w) l[j]:=by
 unfold zn;rw [List.take_succ_eq_append_getElem h,List.foldl_append];rfl
theorem zhT (s:VSt) (l:List VSt) {j:Nat} (h:j<l.length):zP s (l.take (j+1))=(zP s (l.take j)||(zJ s l[j]==0)):=by
 unfold zP;rw [List.take_succ_eq_append_getElem h,List.any_append];simp
theorem MOne.lt {w:World} {mb g:Nat} {pv av wv:Value} {mo:Option VM} (h:MOne w mb pv av wv g mo) (hn:mo≠none):mb<g/\g<w.heap.size:=by
 cases mo with
 |none=>exact absurd rfl hn
 |some m=>
  obtain⟨-,-,ps,-,-,h3,h4⟩:=h;have:=h3.lt g h4;omega
theorem MeetAt.lt {w:World} {mb len:Nat} {M:Nat->Option VM} {cs:Array Value} {g:Nat->Nat} (h:MeetAt w mb len M cs g) {k:Nat} (hk:k<len) (hn:M k≠none):mb<g k/\g k<w.heap.size:=by
 obtain⟨pv,av,wv,-,-,-,h1⟩:=h.one k hk;exact h1.lt hn
theorem MeetAt.upd {w w':World} {mb len k gk go:Nat} {M:Nat->Option VM} {cs cs':Array Value} {g:Nat->Nat} {pv av wv:Value} {m':VM} (h:MeetAt w mb len M cs g) (hk:k<len)
  (hrow:w'.heap[mb]?=some (.cells cs' 86 (0,0))) (hsz:cs'.size=cs.size) (hfar: ∀j,j≠k*3->j≠k*3+1->j≠k*3+2->cs'[j]?=cs[j]?)
  (e0:cs'[k*3]?=some pv) (e1:cs'[k*3+1]?=some av) (e2:cs'[k*3+2]?=some wv) (hone:MOne w' mb pv av wv gk (some m')) (hkeep:KeepT w w')
  (ho:Only mb go w w') (hgo: ∀j,j<len->j≠k->M j≠none->g j≠go) (hgk: ∀j,j<len->j≠k->M j≠none->g j≠gk):MeetAt w' mb len (fun j=>if j=k then some m' else M j) cs' (fun j=>if j=k then gk else g j):=by
 refine⟨hrow,hsz.trans h.size,fun i j hi hj hij=>?_,fun j hj=>?_⟩
 ·intro h1 h2
  by_cases c1:i=k
  ·have c2: ¬j=k:=fun e=>hij (c1.trans e.symm)
   rw [if_neg c2]at h2;rw [if_pos c1,if_neg c2];exact(hgk j hj c2 h2).symm
  ·rw [if_neg c1]at h1
   by_cases c2:j=k
   ·rw [if_neg c1,if_pos c2]
    exact hgk i hi c1 h1
   ·rw [if_neg c2]at h2
    rw [if_neg c1,if_neg c2];exact h.inj i j hi hj hij h1 h2
 ·by_cases c:j=k
  ·subst c
   simp only [if_true];exact⟨pv,av,wv,e0,e1,e2,hone⟩
  ·simp only [c,if_false]
   obtain⟨p',a',v',f0,f1,f2,h1⟩:=h.one j hj;refine⟨p',a',v',(hfar _ (by omega) (by omega) (by omega)).trans f0,(hfar _ (by omega) (by omega) (by omega)).trans f1,(hfar _ (by omega) (by omega) (by omega)).trans f2,h1.stay hkeep fun hn=>?_⟩;have hl:=h.lt hj hn;exact ho.2 _ hl.2 (by omega) (hgo j hj c hn)
theorem zfU {M:Nat->Option VM} {k:Nat} {s:VSt} {m':VM} (h:zcJ (M k) s=some m'):zC M (k,s)=fun j=>if j=k then some m' else M j:=by
 funext j;unfold zC;by_cases c:j=k
 ·simp only [c,if_true];rw [h]
 ·simp only [c,if_false]
theorem zk5:(Tryz.prog.info? 83).map (fun i=>(i.zero,i.size,i.bytes))=some (some (.pointer none),1,8):=by kernel_rfl
structure AddOk (mo:Option VM) (s:VSt):Prop where
 st: ∀m,mo=some m->VLen m.st
 all: ∀m,mo=some m-> ∀t∈m.all,VLen t
 num: ∀m,mo=some m->m.all.length<=1000000000000
 y: ∀m,mo=some m->zn s m.all m.wrong=0->m.st.y.length=s.y.length
 wr: ∀m,mo=some m->zfs m.wrong
def zh7 (mb len k:Nat) (M:Nat->Option VM) (s:VSt) (w:World) (e:Ending) (w':World):Prop:=
 e= .returned (.tuple #[])/\(∃cs' g',MeetAt w' mb len (zC M (k,s)) cs' g')/\KeepT w w'/\Below mb w w'
theorem ziJ (mb len k q:Nat) (M:Nat->Option VM) (s:VSt) (cs:Array Value) (g:Nat->Nat) (w:World) (h:MeetAt w mb len M cs g) (hk:k<len) (hm:M k=none) (hs:StAt w q s):
  Calls Tryz.prog 53 #[.pointer (some ⟨mb,k*3,none⟩),.pointer (some ⟨q,0,none⟩)] w (zh7 mb len k M s w):=by
 obtain⟨pv,av,wv,f0,f1,f2,h1⟩:=h.one k hk;rw [hm]at h1;obtain⟨rfl,rfl,rfl⟩:=h1;have c0:w.cell? ⟨mb,k*3,none⟩=some (.pointer none):=by rw [zzq0 _ _ _ _ _ _ h.row];exact f0
 have c1:w.cell? ⟨mb,k*3+1,none⟩=some (.slice none 0 0):=by rw [zzq0 _ _ _ _ _ _ h.row];exact f1
 have z0:w.frozen? ⟨mb,k*3,none⟩=false:=zzq2 _ _ _ _ _ h.row;have z1:w.frozen? ⟨mb,k*3+1,none⟩=false:=zzq2 _ _ _ _ _ h.row;have H:=zzH h;have HS:=zzH hs;have HF:Hid (cs[k*3]?=some (.pointer none)/\cs[k*3+1]?=some (.slice none 0 0)/\cs[k*3+2]?=some (.int .i64 0)):=zzH ⟨f0,f1,f2⟩
 have hml:=zb h.row;clear h hs f0 f1 f2;go_in;go_wp2_with fail;go_end0
 have hw1:Only mb mb w (((w.setCell ⟨mb,k*3,none⟩ (.pointer (some ⟨q,0,none⟩))).setCell ⟨mb,k*3+1,none⟩ (.slice (some ⟨w.heap.size,0,none⟩) 1 1)).alloc (.cells #[.pointer (some ⟨q,0,none⟩)] 83)):=
  (Only.set.trans Only.set).trans (Only.below (zzE _ _))
 have hsz:((w.setCell ⟨mb,k*3,none⟩ (.pointer (some ⟨q,0,none⟩))).setCell ⟨mb,k*3+1,none⟩ (.slice (some ⟨w.heap.size,0,none⟩) 1 1)).heap.size=w.heap.size:=by simp [World.setCell]
 have hr1:=zzS _ mb (k*3+1) _ _ (.slice (some ⟨w.heap.size,0,none⟩) 1 1) (zzS w mb (k*3) _ _ (.pointer (some ⟨q,0,none⟩)) H.out.row);have hr2:=(Below.heap_alloc ((w.setCell ⟨mb,k*3,none⟩ (.pointer (some ⟨q,0,none⟩))).setCell ⟨mb,k*3+1,none⟩ (.slice (some ⟨w.heap.size,0,none⟩) 1 1)) (.cells #[.pointer (some ⟨q,0,none⟩)] 83) mb (by rw [hsz];exact hml)).trans hr1;have hr3:=zzF ((w.setCell ⟨mb,k*3,none⟩ (.pointer (some ⟨q,0,none⟩))).setCell ⟨mb,k*3+1,none⟩ (.slice (some ⟨w.heap.size,0,none⟩) 1 1)) (.cells #[.pointer (some ⟨q,0,none⟩)] 83);rw [hsz]at hr3
 have hbl:Below mb w (((w.setCell ⟨mb,k*3,none⟩ (.pointer (some ⟨q,0,none⟩))).setCell ⟨mb,k*3+1,none⟩ (.slice (some ⟨w.heap.size,0,none⟩) 1 1)).alloc (.cells #[.pointer (some ⟨q,0,none⟩)] 83)):=
  (((zzR mb w).setCell (p:=⟨mb,k*3,none⟩) (zzL _) _).setCell (p:=⟨mb,k*3+1,none⟩) (zzL _) _).alloc (by rw [hsz];exact zzb hml) _
 generalize((w.setCell ⟨mb,k*3,none⟩ (.pointer (some ⟨q,0,none⟩))).setCell ⟨mb,k*3+1,none⟩ (.slice (some ⟨w.heap.size,0,none⟩) 1 1)).alloc (.cells #[.pointer (some ⟨q,0,none⟩)] 83)=w' at *;have hkp:KeepT w w':=hw1.keep (cs':=#[]) (fr':=(0,0)) H.out.row (.inl rfl);have hs3:k*3+2<cs.size:=by rw [H.out.size];omega
 have hpm:zC M (k,s)=fun j=>if j=k then some ⟨s,[s],0⟩else M j:=zfU (by rw [hm];rfl)
 suffices hup: ∃cs' g',MeetAt w' mb len (fun j=>if j=k then some ⟨s,[s],0⟩else M j) cs' g' from⟨rfl,by rw [hpm];exact hup,hkp,hbl⟩
 refine⟨_,_,H.out.upd (gk:=w.heap.size) (pv:=zce q) (av:=.slice (some ⟨w.heap.size,0,none⟩) 1 1) (wv:=.int .i64 0) hk hr2 (by simp) (fun j h1 h2 h3=>?_) ?_ ?_ ?_ ?_ hkp hw1 (fun j hj _ hn=>Nat.ne_of_gt (H.out.lt hj hn).1) (fun j hj _ hn=>Nat.ne_of_lt (H.out.lt hj hn).2)⟩
 ·rw [zzq7,if_neg (by omega),zzq7,if_neg (by omega)]
 ·rw [zzq7,if_neg (by omega),zzq7,if_pos rfl,if_pos (by omega)];rfl
 ·rw [zzq7,if_pos rfl,if_pos (by simp;omega)]
 ·rw [zzq7,if_neg (by omega),zzq7,if_neg (by omega)];exact HF.out.2.2
 ·refine⟨⟨q,rfl,HS.out.keep hkp⟩,rfl,[q],rfl,fun j a b=>?_,⟨rfl,.inr ⟨w.heap.size,1,_,rfl,hml,hr3,zzL _,by decide,rfl,rfl⟩⟩,rfl⟩
  have:j=0:=by simpa using a
  subst this;exact HS.out.keep hkp
theorem zgE {a b:World} (h:Below a.heap.size a b) (o:Option Nat):a.grownBy b o:=⟨h.os,h.tape,h.output,h.size,fun k hk _=>h.block k hk⟩
theorem zeM {a:Array Value} {i:Nat} {v:Value} (h:a[i]?=some v):a.setIfInBounds i v=a:=by
 apply Array.ext_getElem?;intro j;rw [zzq7];by_cases c:i=j
 ·subst c
  rw [if_pos rfl]
  have:i<a.size:=by
   rcases Nat.lt_or_ge i a.size with d|d
   ·exact d
   ·rw [Array.getElem?_eq_none d]at h;cases h
  rw [if_pos this,h]
 ·rw [if_neg c]
theorem zhP {w:World} {B n:Nat} {T:TypeId} {v:Value} {xs:List Value} (h:w.ownsRow B T 1 v (n+1) xs): ∃g cap,v= .slice (some ⟨g,0,none⟩) (n+1) cap:=by
 rcases h.2 with⟨-,h0⟩|⟨g,cap,cur,rfl,-⟩
 ·omega
 ·exact⟨g,cap,rfl⟩
theorem zhA {w w':World} {mb len k gk gk' b':Nat} {M:Nat->Option VM} {s:VSt} {m m':VM} {cs:Array Value} {g:Nat->Nat} {W:Int} {av':Value} {ps':List Nat} (H:MeetAt w mb len M cs g) (hk:k<len) (hm:M k=some m) (hadd:zcJ (some m) s=some m') (hg:g k=gk)
  (hrow:w'.heap[mb]?=some (.cells (((cs.setIfInBounds (k*3+2) (.int .i64 W)).setIfInBounds (k*3+1) av').setIfInBounds (k*3) (zce b')) 86 (0,0))) (hst:StAt w' b' m'.st) (hW:m'.wrong=W) (hps:ps'.length=m'.all.length)
  (h3: ∀j (h:j<ps'.length) (h':j<m'.all.length),StAt w' ps'[j] m'.all[j]) (h4:w'.ownsRow (mb+1) 83 1 av' m'.all.length (ps'.map zce)) (h5:av'.ownBlock=some gk') (h6:gk'=gk\/w.heap.size<=gk') (h7:Only mb gk w w') (h8:Below mb w w') (hkp:KeepT w w'):
  zh7 mb len k M s w (.returned (.tuple #[])) w':=by
 have hpm:zC M (k,s)=fun j=>if j=k then some m' else M j:=zfU (by rw [hm];exact hadd)
 have hs3:k*3+2<cs.size:=by rw [H.size];omega
 have hgo: ∀j,j<len->j≠k->M j≠none->g j≠gk:=fun j hj hjk hn=>by rw [<-hg];exact H.inj j k hj hk hjk hn (by rw [hm];simp)
 suffices hup: ∃cs' g',MeetAt w' mb len (fun j=>if j=k then some m' else M j) cs' g' from⟨rfl,by rw [hpm];exact hup,hkp,h8⟩
 refine⟨_,_,H.upd (gk:=gk') (pv:=zce b') (av:=av') (wv:=.int .i64 W) hk hrow (by simp) (fun j h1 h2 h3=>?_) ?_ ?_ ?_ ⟨⟨b',rfl,hst⟩,by rw [hW],ps',hps,h3,h4,h5⟩ hkp h7 hgo (fun j hj hjk hn=>?_)⟩
 ·rw [zzq7,if_neg (by omega),zzq7,if_neg (by omega),zzq7,if_neg (by omega)]
 ·rw [zzq7,if_pos rfl,if_pos (by simp;omega)]
 ·rw [zzq7,if_neg (by omega),zzq7,if_pos rfl,if_pos (by simp;omega)]
 ·rw [zzq7,if_neg (by omega),zzq7,if_neg (by omega),zzq7,if_pos rfl,if_pos hs3]
 ·rcases h6 with e|e
  ·rw [e];exact hgo j hj hjk hn
  ·have:=(H.lt hj hn).2;omega
def ziI (mb k gk:Nat) (cs:Array Value) (W:Int) (all:List VSt) (w wx:World):Prop:=
 ∃(av':Value) (gk':Nat) (ps':List Nat),wx.heap[mb]?=some (.cells ((cs.setIfInBounds (k*3+2) (.int .i64 W)).setIfInBounds (k*3+1) av') 86 (0,0))/\ps'.length=all.length /\
  (∀j (h:j<ps'.length) (h':j<all.length),StAt w ps'[j] all[j])/\wx.ownsRow (mb+1) 83 1 av' all.length (ps'.map zce)/\av'.ownBlock=some gk'/\(gk'=gk\/w.heap.size<=gk')/\Only mb gk w wx/\Below mb w wx
theorem zju (mb len k q:Nat) (M:Nat->Option VM) (s:VSt) (m:VM) (cs:Array Value) (g:Nat->Nat) (w:World) (h:MeetAt w mb len M cs g) (hk:k<len) (hm:M k=some m) (hs:StAt w q s) (ls:VLen s) (ha:AddOk (M k) s):
  Calls Tryz.prog 53 #[.pointer (some ⟨mb,k*3,none⟩),.pointer (some ⟨q,0,none⟩)] w (zh7 mb len k M s w):=by
 obtain⟨pv,av,wv,f0,f1,f2,h1⟩:=h.one k hk;rw [hm]at h1;obtain⟨⟨b,rfl,hb⟩,rfl,ps,hps,hall,hown,hgk⟩:=h1;have lm:=ha.st m hm;have la:=ha.all m hm;have lnm:=ha.num m hm;have ly:=ha.y m hm;refine zzK6 h hs hb hall la ly fun H HS HB HALL HLA HLY=>?_;have HF:Hid (cs[k*3]?=some (zce b)/\cs[k*3+1]?=some av/\cs[k*3+2]?=some (.int .i64 m.wrong)):=zzH ⟨f0,f1,f2⟩
 have hml:=zb h.row;have hgl:=hown.lt _ hgk
 obtain⟨gk,cap,cur,rfl,hg0,hg1,hg2,hg3,hg4,hg5⟩: ∃gk cap cur,av= .slice (some ⟨gk,0,none⟩) m.all.length cap/\mb+1<=gk/\w.heap[gk]?=some (.cells cur 83 (0,0))/\m.all.length<=cap/\cap<=maxLen/\cur.size=cap*1/\cur.toList.take (m.all.length*1)=ps.map zce:=by
  rcases hown.2 with⟨rfl,-⟩|hh
  ·cases hgk
  ·exact hh
 have HO:=zzH hown;have egk:g k=gk:=by simpa [Value.ownBlock] using hgk.symm
 have c0:w.cell? ⟨mb,k*3,none⟩=some (.pointer (some ⟨b,0,none⟩)):=by rw [zzq0 _ _ _ _ _ _ h.row];exact f0
 have c1:w.cell? ⟨mb,k*3+1,none⟩=some (.slice (some ⟨gk,0,none⟩) m.all.length cap):=by rw [zzq0 _ _ _ _ _ _ h.row];exact f1
 have hs3:k*3+2<cs.size:=by rw [h.size];omega
 have hcur: ∀j (hj:j<m.all.length),cur[j]?=some (zce (ps[j]'(by omega))):=fun j hj=>by
  have h5:(cur.toList.take (m.all.length*1))[j]?=(ps.map zce)[j]?:=by rw [hg5]
  rw [List.getElem?_take_of_lt (by omega),Array.getElem?_toList,List.getElem?_map,zzq4 (by omega)]at h5;exact h5
 refine zzK3 hcur hg1 h.row fun HC HG1 HROW=>?_;have ENE:Hid (zcJ (some m) s=some ⟨if zn s m.all m.wrong=0 then zbu m.st s else m.st,if zP s m.all=true then m.all else m.all++ [s],zn s m.all m.wrong⟩):=zzH rfl;clear h hs hb hall la ly hown hgk f0 f1 f2 hg5 hcur hg1 ha hgl;obtain⟨n,hn⟩: ∃n:Nat,n=m.all.length:=⟨_,rfl⟩;go_in;go_wp2_with fail;go_loopw [4,27] (fun kv iv wr=> ∃j:Nat,j<=m.all.length/\iv= .int .i64 j/\kv= .bool (zP s (m.all.take j))/\Hid (wr.heap[mb]?=some (.cells (cs.setIfInBounds (k*3+2) (.int .i64 (zn s (m.all.take j) m.wrong))) 86 (0,0))/\Only mb mb w wr/\Below mb w wr)) (fun _ iv _=>m.all.length-(intOf iv).toNat)
 case atStart=>exact⟨0,zzZ _,rfl,rfl,zzH ⟨by rw [List.take_zero];exact HROW.out.trans (congrArg (fun x=>some (Obj.cells x 86 (0,0))) (zeM HF.out.2.2).symm),Only.refl _ _ _,zzR _ _⟩⟩
 case round=>
  obtain⟨j,hj,rfl,rfl,HK⟩:=hrel;rename World=>wr
  by_cases hlt:j<m.all.length
  ·as_aux_lemma=>
   have kp:KeepT w wr:=HK.out.2.1.keep (cs':=#[]) (fr':=(0,0)) HROW.out (.inl rfl);have hw:=HK.out.1
   have d0:wr.cell? ⟨gk,j,none⟩=some (.pointer (some ⟨ps[j]'(by omega),0,none⟩)):=by
    rw [zzq0 _ _ _ _ _ _ ((HK.out.2.1.2 gk (zb HG1.out) (by omega) (by omega)).trans HG1.out)];exact HC.out j hlt
   have d2:wr.cell? ⟨mb,k*3+2,none⟩=some (.int .i64 (zn s (m.all.take j) m.wrong)):=by
    rw [zzq0 _ _ _ _ _ _ hw,zzq7,if_pos rfl,if_pos hs3]
   have d3:wr.frozen? ⟨mb,k*3+2,none⟩=false:=zzq2 _ _ _ _ _ hw;have hcl:=zir q (ps[j]'(by omega)) s m.all[j] wr (HS.out.keep kp) ((HALL.out j (by omega) hlt).keep kp) ls (HLA.out _ (zzM hlt));have KT:=zhT s m.all hlt;have WT:=zik s m.all m.wrong hlt;have HKT:=zzH KT;have HWT:=zzH WT;clear KT WT;have hwd:Hid (zbK s (zn s (m.all.take j) m.wrong) m.all[j]=if zJ s m.all[j]≠0/\(zn s (m.all.take j) m.wrong=0\/zJ s m.all[j]<zn s (m.all.take j) m.wrong)then zJ s m.all[j]else zn s (m.all.take j) m.wrong):=zzH rfl;generalize ps[j]'(by omega)=pj at *;generalize zJ s m.all[j]=ev at *;generalize zbK s (zn s (m.all.take j) m.wrong) m.all[j]=wz at *;generalize hwj:zn s (m.all.take j) m.wrong=wj at *;generalize zP s (m.all.take j)=kb at *;have HCL:=zzH hcl;have hI0:(0:Int)<=(j:Int):=by omega
   have hI1:(j:Int)<(m.all.length:Int):=by omega
   clear hcl hwj hw kp;have fin: ∀(nq:Nat),wz=wj->Hid ((wr.drewN nq).heap[mb]?=some (.cells (cs.setIfInBounds (k*3+2) (.int .i64 (zn s (m.all.take (j+1)) m.wrong))) 86 (0,0))/\Only mb mb w (wr.drewN nq)/\Below mb w (wr.drewN nq)):=fun nq e=>zzH ⟨by rw [HWT.out,e];exact HK.out.1,⟨HK.out.2.1.1,HK.out.2.1.2⟩,zg HK.out.2.2 nq⟩
   have fis: ∀(nq:Nat),wz=ev->Hid (((wr.drewN nq).setCell ⟨mb,k*3+2,none⟩ (.int .i64 ev)).heap[mb]?=some (.cells (cs.setIfInBounds (k*3+2) (.int .i64 (zn s (m.all.take (j+1)) m.wrong))) 86 (0,0))/\Only mb mb w ((wr.drewN nq).setCell ⟨mb,k*3+2,none⟩ (.int .i64 ev))/\Below mb w ((wr.drewN nq).setCell ⟨mb,k*3+2,none⟩ (.int .i64 ev))):=fun nq e=>
    zzH ⟨by rw [HWT.out,e];exact(zzS (wr.drewN nq) mb (k*3+2) _ _ _ HK.out.1).trans (by rw [Array.setIfInBounds_setIfInBounds]),(show Only mb mb w (wr.drewN nq)from⟨HK.out.2.1.1,HK.out.2.1.2⟩).trans Only.set,(zg HK.out.2.2 nq).setCell (p:=⟨mb,k*3+2,none⟩) (zzL _) _⟩
   have FIN:=zzH fin;have FIS:=zzH fis;clear fin fis;by_cases e0:ev=0
   ·have t0:(ev==0)=true:=zzl.2 e0
    have t1 : (ev != 0) = false := by rw [e0]; rfl
    have HW2:Hid (wz=wj):=zzH (by rw [hwd.out,if_neg (fun x=>x.1 e0)]);have HK2:Hid (zP s (m.all.take (j+1))=true):=zzH (by rw [HKT.out,t0,zzq14]);clear e0 hwd HKT;exact zz78
   ·have t0:(ev==0)=false:=zzB.2 e0
    have t1 : (ev != 0) = true := by simpa using e0
    have HK2:Hid (zP s (m.all.take (j+1))=kb):=zzH (by rw [HKT.out,t0,zzq12]);clear HKT;by_cases e1:wj=0
    ·have t2:(wj==0)=true:=zzl.2 e1
     have HW2:Hid (wz=ev):=zzH (by rw [hwd.out,if_pos ⟨e0,.inl e1⟩]);clear e0 e1 hwd;exact zz79
    ·have t2:(wj==0)=false:=zzB.2 e1
     by_cases e2:ev<wj
     ·have t3:decide (ev<wj)=true:=zzT e2
      have HW2:Hid (wz=ev):=zzH (by rw [hwd.out,if_pos ⟨e0,.inr e2⟩]);clear e0 e1 e2 hwd;exact zz79
     ·have t3:decide (ev<wj)=false:=zzD e2
      have HW2:Hid (wz=wj):=zzH (by rw [hwd.out,if_neg (fun x=>x.2.elim e1 e2)]);clear e0 e1 e2 hwd;exact zz78
  ·obtain rfl:j=m.all.length:=by omega
   rw [List.take_length]at HK ⊢;have hw:=HK.out.1;generalize hW:zn s m.all m.wrong=W at *;have HWW:=zzH hW;clear hW;have EN:=ENE;clear ENE
   have e1:wr.cell? ⟨mb,k*3+1,none⟩=some (.slice (some ⟨gk,0,none⟩) m.all.length cap):=by
    rw [zzq0 _ _ _ _ _ _ hw,zzq7,if_neg (by omega)];exact HF.out.2.1
   have e2:wr.cell? ⟨mb,k*3+2,none⟩=some (.int .i64 W):=by
    rw [zzq0 _ _ _ _ _ _ hw,zzq7,if_pos rfl,if_pos hs3]
   have z1:wr.frozen? ⟨mb,k*3+1,none⟩=false:=zzq2 _ _ _ _ _ hw;have hgr:=(HK.out.2.1.2 gk (zb HG1.out) (by omega) (by omega)).trans HG1.out
   have hown:wr.ownsRow (mb+1) 83 1 (.slice (some ⟨gk,0,none⟩) m.all.length cap) m.all.length (ps.map zce):=
    ⟨HO.out.1,.inr ⟨gk,cap,cur,rfl,hg0,hgr,hg2,hg3,hg4,by
     rcases HO.out.2 with⟨hh,-⟩|⟨g',cap',cur',hh,-,hg',-,-,-,ht⟩
     ·cases hh
     ·injection hh with ha hb' hc'
      injection ha with ha;injection ha with ha;subst ha;rw [HG1.out]at hg';injection hg' with hg';injection hg' with hg';subst hg';exact ht⟩⟩
   obtain⟨i0,hi,hz0,hz1,hz2⟩:=info_parts zk5;generalize hkb:zP s m.all=kb at *;have HKB:=zzH hkb;clear hkb
   cases kb
   case' true=>
    go_upto_region 13 with fail
    obtain⟨L,HA,EQ⟩: ∃L,Hid (ziI mb k gk cs W L w wr)/\Hid (zcJ (some m) s=some ⟨if W=0 then zbu m.st s else m.st,L,W⟩):=⟨m.all,zzH ⟨.slice (some ⟨gk,0,none⟩) m.all.length cap,gk,ps,by
     rw [zeM (a:=cs.setIfInBounds (k*3+2) (.int .i64 W)) (by rw [zzq7,if_neg (by omega)];exact HF.out.2.1)];exact hw,hps,HALL.out,hown,rfl,.inl rfl,HK.out.2.1.left,HK.out.2.2⟩,zzH (EN.out.trans (by rw [if_pos rfl]))⟩
    clear e1 e2 z1 hgr hown EN HKB hw HK;generalize wr=W3 at *
   case' false=>
    have HOA:=zzH (hown.alloc (.cells #[.pointer (some ⟨q,0,none⟩)] 83));have hms:mb+1<=(wr.alloc (.cells #[.pointer (some ⟨q,0,none⟩)] 83)).heap.size:=by have:=zb hw;simp;omega
    go_wp2_with (at_builtin;refine wpList_append_own_at _ rfl (.tmp 67) (.tmp 69) 84 rfl (mb+1) 83 i0 (.pointer none) 1 8 Tryz.underlying84 hi hz0 hz1 hz2 rfl (by decide) (.slice (some ⟨gk,0,none⟩) m.all.length cap) m.all.length (ps.map zce) rfl HOA.out ⟨wr.heap.size,0,none⟩ 1 1 [.pointer (some ⟨q,0,none⟩)] rfl rfl (zdF _ _ _) (by simp [Value.oneCell']) (by unfold maxLen;omega) (by omega) hms ?_);intro v' w2 ho2 hg2 hnil hloc;have hrw:=(hg2.block mb (zzW (Nat.lt_succ_self mb) hms) (fun e=>absurd (zzf e) (by show¬mb=gk;omega))).trans ((Below.heap_alloc _ _ _ (zb hw)).trans hw);have HRW:=zzH hrw;have y1:=zm hrw (k:=k*3+1) (by simp;omega);have y2:w2.frozen? ⟨mb,k*3+1,none⟩=false:=zzq2 _ _ _ _ _ hrw;refine zzK3 ho2 hg2 hloc fun HO2 HG2 HLOC=>?_;obtain⟨g2,cap2,rfl⟩:=zhP ho2;clear hrw ho2 hg2 hnil hloc;go_upto_region 13 with fail
    have ho:Only mb gk w (w2.setCell ⟨mb,k*3+1,none⟩ (.slice (some ⟨g2,0,none⟩) (m.all.length+1) cap2)):=
     ((HK.out.2.1.left.trans (.below (zzE _ _))).trans (Only.grown HG2.out)).trans Only.set
    have hbl:Below mb w (w2.setCell ⟨mb,k*3+1,none⟩ (.slice (some ⟨g2,0,none⟩) (m.all.length+1) cap2)):=
     ((HK.out.2.2.alloc (zzb (zb hw)) _).grown HG2.out (by have:=zb hw;simp;omega) (fun x e=>by
      have:=zzf e;subst this;show mb<=gk;omega)).setCell (p:=⟨mb,k*3+1,none⟩) (zzL _) _
    have hg2:g2=gk\/w.heap.size<=g2:=by
     rcases HLOC.out with e|e
     ·left;have:=zzf e;exact this
     ·right
      have h1:g2=wr.heap.size+1:=zzf e;have h2:=HK.out.2.1.1;omega
    have ho2:(w2.setCell ⟨mb,k*3+1,none⟩ (.slice (some ⟨g2,0,none⟩) (m.all.length+1) cap2)).ownsRow (mb+1) 83 1 (.slice (some ⟨g2,0,none⟩) (m.all.length+1) cap2) (m.all.length+1) ((ps++ [q]).map zce):=by
     rw [List.map_append];exact ownsRow_setCell_below HO2.out (Nat.lt_succ_self mb) _
    obtain⟨L,HA,EQ⟩: ∃L,Hid (ziI mb k gk cs W L w (w2.setCell ⟨mb,k*3+1,none⟩ (.slice (some ⟨g2,0,none⟩) (m.all.length+1) cap2)))/\Hid (zcJ (some m) s=some ⟨if W=0 then zbu m.st s else m.st,L,W⟩):=
     ⟨m.all++ [s],zzH ⟨_,g2,ps++ [q],zzS _ _ _ _ _ _ HRW.out,by simp [hps],fun j h h'=>by
      by_cases c:j<m.all.length
      ·rw [List.getElem_append_left (by omega),List.getElem_append_left c];exact HALL.out j (by omega) c
      ·rw [List.getElem_append_right (by omega),List.getElem_append_right (by omega)];simp;exact HS.out,by rw [zzq16];exact ho2,rfl,hg2,ho,hbl⟩,zzH (EN.out.trans (by simp only [Bool.false_eq_true,if_false]))⟩
    clear e1 e2 z1 hgr hown EN HKB hw HK ho2 hg2 hbl ho HRW y1 y2 HO2 HG2 HLOC HOA hms;generalize w2.setCell ⟨mb,k*3+1,none⟩ (.slice (some ⟨g2,0,none⟩) (m.all.length+1) cap2)=W3 at *
   all_goals
    obtain⟨av',gk',ps',r1,r2,r3,r4,r5,r6,r7,r8⟩:=HA.out;have kp:KeepT w W3:=r7.keep HROW.out (.inr HG1.out);refine zzK6 r1 r4 r7 r8 kp r3 fun HR1 HR4 HR7 HR8 HKP HR3=>?_
    have x0:W3.cell? ⟨mb,k*3,none⟩=some (.pointer (some ⟨b,0,none⟩)):=by
     rw [zzq0 _ _ _ _ _ _ r1,zzq7,if_neg (by omega),zzq7,if_neg (by omega)];exact HF.out.1
    have x2:W3.cell? ⟨mb,k*3+2,none⟩=some (.int .i64 W):=by
     rw [zzq0 _ _ _ _ _ _ r1,zzq7,if_neg (by omega),zzq7,if_pos rfl,if_pos hs3]
    clear r1 r3 r4 r7 r8 kp HA;by_cases hw0:W=0
    ·have hjo:=zhe b q m.st s W3 (HB.out.keep HKP.out) (HS.out.keep HKP.out) lm ls (HLY.out hw0)
     have HJO:=zzH hjo;have t0:(W==0)=true:=zzl.2 hw0;have EQ2:Hid (zcJ (some m) s=some ⟨zbu m.st s,L,W⟩):=zzH (EQ.out.trans (by rw [if_pos hw0]));clear hw0 hjo EQ;go_wp2_with fail;refine HJO.out.mono ?_;rintro e w5 ⟨⟨b5,rfl,hb5,hst5⟩,hbl5⟩;have hr5:=(hbl5.block mb (zb HR1.out)).trans HR1.out;have y0:=zm hr5 (k:=k*3) (by simp;omega);have y1:w5.frozen? ⟨mb,k*3,none⟩=false:=zzq2 _ _ _ _ _ hr5;refine zzK3 hr5 hst5 hbl5 fun HR5 HST5 HBL5=>?_;clear hr5 hst5 hbl5 HJO;go_wp2_with fail;go_end0;have hkp5:KeepT w (w5.setCell ⟨mb,k*3,none⟩ (.pointer (some ⟨b5,0,none⟩))):=((HR7.out.trans (.below HBL5.out)).trans Only.set).keep HROW.out (.inr HG1.out);have hks:KeepT w5 (w5.setCell ⟨mb,k*3,none⟩ (.pointer (some ⟨b5,0,none⟩))):=(Only.set (b:=mb)).keep (cs':=#[]) (fr':=(0,0)) HR5.out (.inl rfl);have hk35:KeepT W3 (w5.setCell ⟨mb,k*3,none⟩ (.pointer (some ⟨b5,0,none⟩))):=(KeepT.below HBL5.out).trans hks
     exact zhA H.out hk hm EQ2.out egk (zzS _ _ _ _ _ _ HR5.out) (HST5.out.keep hks) rfl r2 (fun j h h'=>(HR3.out j h h').keep hkp5)
      (ownsRow_setCell_below (HR4.out.kept (zgE HBL5.out none) (by rw [r5];simp)) (Nat.lt_succ_self mb) _) r5 r6 ((HR7.out.trans (.below HBL5.out)).trans Only.set)
      ((HR8.out.trans (HBL5.out.mono (zzb (zb HR1.out)))).setCell (p:=⟨mb,k*3,none⟩) (zzL _) _) hkp5
    ·have t0:(W==0)=false:=zzB.2 hw0
     have EQ2:Hid (zcJ (some m) s=some ⟨m.st,L,W⟩):=zzH (EQ.out.trans (by rw [if_neg hw0]));clear hw0 EQ;go_wp2_with fail;go_end0;refine zhA H.out hk hm EQ2.out egk ?_ (HB.out.keep HKP.out) rfl r2 (fun j h h'=>(HR3.out j h h').keep HKP.out) HR4.out r5 r6 HR7.out HR8.out HKP.out;rw [zeM (v:=zce b) (by rw [zzq7,if_neg (by omega),zzq7,if_neg (by omega)];exact HF.out.1)];exact HR1.out
theorem zjZ (mb len k q:Nat) (M:Nat->Option VM) (s:VSt) (cs:Array Value) (g:Nat->Nat) (w:World) (h:MeetAt w mb len M cs g) (hk:k<len) (hs:StAt w q s) (ls:VLen s) (ha:AddOk (M k) s):
  Calls Tryz.prog 53 #[.pointer (some ⟨mb,k*3,none⟩),.pointer (some ⟨q,0,none⟩)] w (zh7 mb len k M s w):=by
 cases hm:M k with
 |none=>exact ziJ mb len k q M s cs g w h hk hm hs
 |some m=>exact zju mb len k q M s m cs g w h hk hm hs ls ha
end Go.Proofs.YtepjanajflkakaaGreatDoor
