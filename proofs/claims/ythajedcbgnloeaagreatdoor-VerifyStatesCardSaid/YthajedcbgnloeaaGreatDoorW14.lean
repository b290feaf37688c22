import Derived.Test.YthajedcbgnloeaaGreatDoorW11
namespace Go.Proofs.YthajedcbgnloeaaGreatDoor
open Go.RowKit
set_option linter.unusedVariables false
set_option linter.unusedSimpArgs false
set_option maxRecDepth 100000
set_option maxHeartbeats 0
theorem zdb: ∀l m:List Int,(zbZ l m).length=l.length
 |[],_=>rfl
 |a::l,[]=>by show(zT a 0::zbZ l []).length=_;rw [zzq18,zdb l []];rfl
 |a::l,b::m=>by show(zT a b::zbZ l m).length=_;rw [zzq18,zdb l m];rfl
theorem zgj: ∀(l m:List Int) (k:Nat),k<l.length->(zbZ l m)[k]?=some (zT (l.getD k 0) (m.getD k 0))
 |[],_,k,h=>absurd h (zzC _)
 |a::l,[],0,_=>rfl
 |a::l,[],k+1,h=>by
  have:=zgj l [] k (by simpa using h);show(zbZ l [])[k]?=_
  rw [this];rfl
 |a::l,b::m,0,_=>rfl
 |a::l,b::m,k+1,h=>by
  have:=zgj l m k (by simpa using h);show(zbZ l m)[k]?=_
  rw [this];rfl
theorem zj5 {l m:List Int} {k:Nat} (h:k<l.length):(zbZ l m).take (k+1)=(zbZ l m).take k++ [zT (l.getD k 0) (m.getD k 0)]:=by
 rw [List.take_add_one,zgj l m k h];rfl
theorem zi8: ∀(l m:List Int) (k:Nat),k<l.length->k<m.length->(zH l m)[k]?=some (zT (l.getD k 0) (m.getD k 0))
 |[],_,k,h,_=>absurd h (zzC _)
 |a::l,[],k,_,h=>absurd h (zzC _)
 |a::l,b::m,0,_,_=>rfl
 |a::l,b::m,k+1,h,h'=>by
  have:=zi8 l m k (by simpa using h) (by simpa using h');show(zH l m)[k]?=_
  rw [this];rfl
theorem zlz {l m:List Int} {k:Nat} (h:k<l.length) (h':k<m.length):(zH l m).take (k+1)=(zH l m).take k++ [zT (l.getD k 0) (m.getD k 0)]:=by
 rw [List.take_add_one,zi8 l m k h h'];rfl
def IntsUp (w:World) (B:Nat) (ao:Option Addr) (l:List Int):Prop:=
 l= []\/ ∃b off cs fr,b<B/\ao=some ⟨b,off,none⟩/\w.heap[b]?=some (.cells cs 3 fr)/\ ∀j (h:j<l.length),cs[off+j]?=some (.int .i64 l[j])
theorem IntsAt.up {w:World} {ao:zzA} {l:List Int} (h:IntsAt w ao l):IntsUp w w.heap.size ao l:=
 h.imp id fun⟨b,off,cs,fr,e,hb,hr⟩=>⟨b,off,cs,fr,zd hb,e,hb,hr⟩
theorem IntsUp.below {w w':World} {B:Nat} {ao:zzA} {l:List Int} (h:IntsUp w B ao l) (hb:Below B w w'):IntsUp w' B ao l:=
 h.imp id fun⟨b,off,cs,fr,h1,e,hr,hc⟩=>⟨b,off,cs,fr,h1,e,(hb.block b h1).trans hr,hc⟩
theorem IntsUp.at {w:World} {B:Nat} {ao:zzA} {l:List Int} (h:IntsUp w B ao l):IntsAt w ao l:=
 h.imp id fun⟨b,off,cs,fr,h1,e,hr,hc⟩=>⟨b,off,cs,fr,e,hr,hc⟩
theorem IntsUp.mono {w:World} {B C:Nat} {ao:zzA} {l:List Int} (h:IntsUp w B ao l) (hB:B<=C):IntsUp w C ao l:=
 h.imp id fun⟨b,off,cs,fr,h1,e,hr,hc⟩=>⟨b,off,cs,fr,zzW h1 hB,e,hr,hc⟩
theorem IntsUp.cell {w:World} {B:Nat} {ao:zzA} {l:List Int} (h:IntsUp w B ao l) {k:Nat} (hk:k<l.length):
  ∃b off,ao=some ⟨b,off,none⟩/\b<B/\b<w.heap.size/\w.cell? ⟨b,off+k,none⟩=some (.int .i64 (l.getD k 0)):=by
 rcases h with h|⟨b,off,cs,fr,h1,e,hb,hr⟩
 ·rw [h]at hk;exact absurd hk (zzC _)
 ·refine⟨b,off,e,h1,zd hb,?_⟩
  exact zz65
theorem IntsUp.grown {w w':World} {B:Nat} {o:Option Nat} {ao:zzA} {l:List Int} (h:IntsUp w B ao l) (hg:w.grownBy w' o) (hf: ∀j,j<B->some j≠o):IntsUp w' B ao l:=
 h.imp id fun⟨b,off,cs,fr,h1,e,hr,hc⟩=>⟨b,off,cs,fr,h1,e,(hg.block b (zd hr) (hf b h1)).trans hr,hc⟩
theorem IntsUp.setFar {w:World} {B Y i:Nat} {v:Value} {cs:Array Value} {T:TypeId} {fr:Nat × Nat} {ao:zzA} {l:List Int} (h:IntsUp w B ao l) (hY:w.heap[Y]?=some (.cells cs T fr)) (hT:T≠3):IntsUp (w.setCell ⟨Y,i,none⟩ v) B ao l:=
 h.imp id fun⟨b,off,cs',fr',h1,e,hr,hc⟩=>⟨b,off,cs',fr',h1,e,zcR hr hY hT,hc⟩
theorem KeepI.setRow {w:World} {g:Nat} {cs:Array Value} {T:TypeId} {fr:Nat × Nat} (h:w.heap[g]?=some (.cells cs T fr)) (hT:T≠3) (row:Array Value):KeepI w (w.setRow g row):=
 ⟨by simp [World.setRow],fun k c f hk=>(zzv w g k row (fun e=>by
  subst e;rw [h]at hk;injection hk with hk;injection hk with _ hk _;exact hT hk)).trans hk⟩
structure AppI (w:World) (O B:Nat) (ao:Option Addr) (k c:Nat) (L:List Int) (J:Int) (cs:Array Value) (T:TypeId):Prop where
 own:(w.drew.alloc (.cells #[.int .i64 J] 3)).ownsRow B 3 1 (.slice ao k c) k (L.map (Value.int .i64))
 news:(w.drew.alloc (.cells #[.int .i64 J] 3)).heap[w.heap.size]?=some (.cells #[.int .i64 J] 3 (0,0))
 da:Below w.heap.size w (w.drew.alloc (.cells #[.int .i64 J] 3))
 row:(w.drew.alloc (.cells #[.int .i64 J] 3)).heap[O]?=some (.cells cs T (0,0))
 far: ∀j,j<B->some j≠(Value.slice ao k c).ownBlock
 ol: ∀j,(Value.slice ao k c).ownBlock=some j->B<=j
 sz:B<=(w.drew.alloc (.cells #[.int .i64 J] 3)).heap.size
theorem zqC {w:World} {O B:Nat} {ao:zzA} {k c:Nat} {L:List Int} {J:Int} {cs:Array Value} {T:TypeId} (hr:w.heap[O]?=some (.cells cs T (0,0))) (ho:OwnI w B (.slice ao k c) L) (hk:L.length=k) (hB:B<=w.heap.size):AppI w O B ao k c L J cs T:=by
 have hd:Below w.heap.size w (w.drew.alloc (.cells #[.int .i64 J] 3)):=(zzR _ _).drew.alloc (zzL _) _;unfold OwnI at ho;rw [hk]at ho;refine⟨ho.kept (zdU hd none) (by cases (Value.slice ao k c).ownBlock<;>simp),zzF w.drew _,hd,(hd.block O (zd hr)).trans hr,fun j hj e=>?_,fun j e=>(ho.lt j e).1,zzY hB hd.size⟩;have:=(ho.lt j e.symm).1;omega
theorem zm9 (s t:VSt) (xo yo to' xo2 yo2 to2:zzA) (xc yc tc xc2 yc2 tc2:Nat) (w:World) (hs:StLs w s xo xc yo yc to' tc) (ht:StLs w t xo2 xc2 yo2 yc2 to2 tc2) (ls:VLen s) (lt:VLen t) (hc:zG s t=0) (hy:s.y.length=t.y.length):
  Calls Tryz.prog 83 #[.agg (zzs s xo xc yo yc to' tc),.agg (zzs t xo2 xc2 yo2 yc2 to2 tc2)] w
   fun e w'=>(∃row:List Value,e= .returned (.tuple #[.agg row.toArray,.int .i64 0])/\StR w' row (zbf s t))/\Below w.heap.size w w':=by
 unfold zzs;obtain⟨h1,h2,h3,h4⟩:=clash_zero.1 hc;obtain⟨f,sx,sy,tr,m,r,g⟩:=s;obtain⟨f2,tx,ty,tr2,m2,r2,g2⟩:=t;simp only at h1 h2 h3 h4 hy;subst h1;subst h2;subst h3;subst h4;simp only;have lx:=ls.x;have ly:=ls.y;have lt':=ls.t;have lx2:=lt.x;simp only at lx ly lt' lx2;obtain⟨gA,gB,gC,hb⟩:=zbR w (.cells #[.int .i64 f,.slice xo sx.length xc,.slice yo sy.length yc,.slice to' tr.length tc,.bool m,.int .i64 r,.int .i64 g] 40) (.cells #[.int .i64 f,.slice xo2 tx.length xc2,.slice yo2 ty.length yc2,.slice to2 tr.length tc2,.bool m2,.int .i64 r,.int .i64 g] 40) (.cells #[.int .i64 0,.slice none 0 0,.slice none 0 0,.slice none 0 0,.bool false,.int .i64 0,.int .i64 0] 40);refine zzK8 gA gB gC hb (hs.below hb) (ht.below hb) (zzI hs.xl (zzI hs.yl hs.tl)) hy fun HA HB HR HBB HS HT HSL HY=>?_;clear hy;obtain⟨MM,hMM⟩: ∃MM,MM=(m&&m2):=⟨_,rfl⟩;have HMM:=zzH hMM;obtain⟨i0,hi,hz0,hz1,hz2⟩:=info_parts zdo;clear gA gB gC hb hs ht ls lt hc hMM;go_in;go_upto_region 1 with fail;generalize((w.alloc _).alloc _).alloc _=W at *;obtain⟨c0,c1,c2,c3,c4,c5,c6⟩:=zN HA.out;obtain⟨d0,d1,d2,d3,d4,d5,d6⟩:=zN HB.out;have u1 : (f != f) = false := zcQ rfl;have u2 : (r != r) = false := zcQ rfl;have u3 : (g != g) = false := zcQ rfl;have hsm:=zdX tr tr to' to2 tc tc2 W HS.out.t HT.out.t lt' lt';rw [decide_eq_true rfl]at hsm;have HSM:=zzH hsm;clear hsm;go_wp2_with fail;refine HSM.out.mono ?_;rintro e V ⟨rfl,q,hq⟩;have hbq:Below W.heap.size W V:=by rw [hq];exact zm (zzR _ _) q
 have hAV:=(hbq.block _ (zd HA.out)).trans HA.out;have hBV:=(hbq.block _ (zd HB.out)).trans HB.out;refine zzK6 hAV hBV ((hbq.block _ (zd HR.out)).trans HR.out) (HS.out.below hbq) (HT.out.below hbq) (ze HBB.out hbq) fun HAV HBV HRV HSV HTV HWV=>?_;clear hq hbq HA HB HR HS HT HBB HSM c0 c1 c2 c3 c4 c5 c6 d0 d1 d2 d3 d4 d5 d6;obtain⟨c0,c1,c2,c3,c4,c5,c6⟩:=zN hAV;obtain⟨d0,d1,d2,d3,d4,d5,d6⟩:=zN hBV;clear hAV hBV
 cases m
 all_goals
  go_upto_region 8 with fail;generalize hX:V.alloc _=X at *;obtain⟨mm,HM2,gO⟩: ∃b,Hid (b=MM)/\X.heap[V.heap.size]?=some (.cells #[.int .i64 f,.slice none 0 0,.slice none 0 0,.slice to' tr.length tc,.bool b,.int .i64 r,.int .i64 g] 40 (0,0)):=by rw [<-hX];exact⟨_,zzH HMM.out.symm,zzF _ _⟩
  have hBX:Below V.heap.size V X:=by rw [<-hX];exact zzE _ _
  have HXS:Hid (X.heap.size=V.heap.size+1):=zzH (by rw [<-hX];simp);clear hX c0 c1 c2 c3 c4 c5 c6 d0 d1 d2 d3 d4 d5 d6 u1 u2 u3;refine zzK8 (zd HAV.out) (zd HBV.out) (zd HRV.out) HSV.out.t HSV.out.x.up HSV.out.y.up HTV.out.x.up HTV.out.y.up fun HAL HBL HRL HTR2 HSX HSY HTX HTY=>?_;generalize hO:V.heap.size=O at *;refine zzK3 hO hBX gO fun HO HBX HGO=>?_;clear hO hBX gO;go_wp2_with fail;go_loopw [7] (fun v wr=> ∃(k:Nat) (ao:zzA) (c:Nat),k<=sx.length/\v= .int .i64 k/\Hid (wr.heap[O]?=some (.cells #[.int .i64 f,.slice ao k c,.slice none 0 0,.slice to' tr.length tc,.bool mm,.int .i64 r,.int .i64 g] 40 (0,0))/\OwnI wr (O+1) (.slice ao k c) ((zbZ sx tx).take k))/\Hid (Below O V wr)) (fun v _=>sx.length-(intOf v).toNat)
  case atStart=>exact⟨0,none,0,zzZ _,rfl,zzH ⟨HGO.out,by rw [List.take_zero];exact World.ownsRow_nil _ _ _ _⟩,HBX⟩
  case round=>
   obtain⟨k,ao,c,hk,rfl,HK,HB⟩:=hrel;rename World=>wr
   have hai:=(HB.out.block _ HAL.out).trans HAV.out;have hbi:=(HB.out.block _ HBL.out).trans HBV.out;have q1:=zzq0 _ _ 1 _ _ _ hai;have q2:=zzq0 _ _ 1 _ _ _ hbi;have q3:=zzq0 _ _ 1 _ _ _ HK.out.1;simp only [List.getElem?_toArray,List.getElem?_cons_zero,List.getElem?_cons_succ]at q1 q2 q3;by_cases hlt:k<sx.length
   ·as_aux_lemma=>
    obtain⟨pb,po,rfl,hpO,hpb,e1⟩:=(HSX.out.below HB.out).cell hlt;have hk0:(0:Int)<=(k:Int):=by omega
    have hk1:(k:Int)<(sx.length:Int):=by omega
    go_upto_region 11 with fail;obtain⟨J,hJ⟩: ∃J,J=zT (sx.getD k 0) (zcB tx (k:Int)):=⟨_,rfl⟩;have hlen:((zbZ sx tx).take k).length=k:=by rw [List.length_take,zdb];omega
    have hap:=zqC (J:=J) HK.out.1 HK.out.2 hlen (zd HK.out.1);refine zzK3 hap (zji tx xo2 xc2 (k:Int) wr.drew ((HTX.out.below HB.out).at.below ((zzR _ _).drew)) (by omega) hk0) (zgA (sx.getD k 0) (zcB tx (k:Int)) wr.drew) fun HAP HTC HJC=>?_;rw [<-hJ]at HJC;have hst:(zbZ sx tx).take (k+1)=(zbZ sx tx).take k++ [J]:=by rw [zj5 hlt,hJ];unfold zcB;rw [zzq11]
    have HST:=zzH hst;have HLE:=zzH hlen;clear hst;generalize sx.getD k 0=ea at *;generalize zcB tx (k:Int)=eb at *;have hkN:(k:Nat)<=1000:=by omega
    have K1:Hid (wr.drew.cell? ⟨w.heap.size,1,none⟩=some (.slice (some ⟨pb,po,none⟩) sx.length xc)/\wr.drew.cell? ⟨w.heap.size+1,1,none⟩=some (.slice xo2 tx.length xc2)/\wr.drew.cell? ⟨pb,po+k,none⟩=some (.int .i64 ea)/\wr.drew.cell? ⟨O,1,none⟩=some (.slice ao k c)):=zzH ⟨by simpa using q1,by simpa using q2,by simpa using e1,by simpa using q3⟩;have K2:Hid ((wr.drew.alloc (.cells #[.int .i64 J] 3)).cell? ⟨w.heap.size,1,none⟩=some (.slice (some ⟨pb,po,none⟩) sx.length xc)/\(wr.drew.alloc (.cells #[.int .i64 J] 3)).cell? ⟨w.heap.size+1,1,none⟩=some (.slice xo2 tx.length xc2)/\(wr.drew.alloc (.cells #[.int .i64 J] 3)).cell? ⟨pb,po+k,none⟩=some (.int .i64 ea)/\(wr.drew.alloc (.cells #[.int .i64 J] 3)).cell? ⟨O,1,none⟩=some (.slice ao k c)):=zzH ⟨(HAP.out.da.cell (p:=⟨w.heap.size,1,none⟩) (zd hai)).trans q1,(HAP.out.da.cell (p:=⟨w.heap.size+1,1,none⟩) (zd hbi)).trans q2,(HAP.out.da.cell (p:=⟨pb,po+k,none⟩) hpb).trans e1,(HAP.out.da.cell (p:=⟨O,1,none⟩) (zd HK.out.1)).trans q3⟩;clear hai hbi hJ q1 q2 q3 e1 hlen;refine zbr 13 (fun w'=>True) (fun w'=>w'.cell? ⟨w.heap.size,1,none⟩=some (.slice (some ⟨pb,po,none⟩) sx.length xc)/\w'.cell? ⟨w.heap.size+1,1,none⟩=some (.slice xo2 tx.length xc2)/\w'.cell? ⟨pb,po+k,none⟩=some (.int .i64 ea)/\w'.cell? ⟨O,1,none⟩=some (.slice ao k c)) (by kernel_rfl) ⟨trivial,K1.out⟩ (fun hHeld=>?_);refine zg 0 hHeld ?_;simp only [zzX0];refine zt [] 1 hHeld ?_;simp only [zzX0];refine zg 2 hHeld ?_;simp only [zzX0];refine zt [12,11,6,5] 3 hHeld ?_;simp only [zzX0];refine zg 4 hHeld ?_;simp only [zzX0];refine zg 5 hHeld ?_;simp only [zzX0];refine zt [12,11] 6 hHeld ?_;simp only [zzX0];refine zg 7 hHeld ?_;simp only [zzX0];refine zt [12,11,10] 8 hHeld ?_;simp only [zzX0];refine zg 9 hHeld ?_;simp only [zzX0];refine zE 10 fun KK hK=>?_
    go_simp;refine HTC.out.mono ?_;rintro e w5 ⟨rfl,rfl⟩;go_wp2_with fail;refine hK.out _ _ hHeld ?_;clear hK KK
    try simp only [zzX0]
    refine zE 11 fun KK hK=>?_
    go_simp;refine HJC.out.mono ?_;rintro e w5 ⟨rfl,rfl⟩;go_wp2_with fail;refine hK.out _ _ hHeld ?_;clear hK KK
    try simp only [zzX0]
    refine zE 12 fun KK hK=>?_
    go_simp;refine hK.out _ _ ⟨trivial,K2.out⟩ ?_;clear hK KK
    try simp only [zzX0]
    refine zO 13 fun KK hK=>?_
    refine step_append_lies _ rfl (.tmp 58) (.tmp 69) 38 rfl (O+1) 3 i0 _ 1 8 Tryz.underlying38 hi hz0 hz1 hz2 rfl (by decide) (.slice ao k c) k (((zbZ sx tx).take k).map (Value.int .i64)) rfl HAP.out.own ⟨wr.heap.size,0,none⟩ 1 1 [.int .i64 J] rfl rfl (World.news_of_block HAP.out.news) (by simp [Value.oneCell']) (by decide) (by unfold maxLen;omega) (by omega) HAP.out.sz _ rfl ?_;intro g9 cap9 w9 ho9 hg9 hat9 hlt9;have hr9:=(hg9.block O (zd HAP.out.row) (HAP.out.far O (Nat.lt_succ_self O))).trans HAP.out.row;have HR9:=zzH hr9;have p9:=zzq0 _ _ 1 _ _ _ hr9;have z9:=zzq5 _ _ 1 _ _ hr9;have HO9:=zzH ho9;have HG9:=zzH hg9;clear hr9 ho9 hg9 hat9;refine hK.out _ _ trivial ?_;clear hK KK
    try simp only [zzX0]
    refine zO 14 fun KK hK=>?_
    go_simp;refine hK.out _ _ trivial ?_;clear hK KK
    try simp only [zzX0]
    refine zO 15 fun KK hK=>?_
    go_simp;refine hK.out _ _ trivial ?_;clear hK KK
    try simp only [zzX0]
    refine zbq (by kernel_rfl) ?_ _;go_wp2_with fail;refine⟨⟨k+1,some ⟨g9,0,none⟩,cap9,hlt,by go_num,zzH ⟨zzS _ _ _ _ _ _ HR9.out,?_⟩,zzH ?_⟩,by simp [intOf];omega⟩
    ·rw [HST.out]
     have h5:=ownsRow_setCell_below HO9.out (a:=⟨O,1,none⟩) (Nat.lt_succ_self O) (.slice (some ⟨g9,0,none⟩) (k+1) cap9);unfold OwnI;rw [zzq12,HLE.out,List.map_append];exact h5
    ·exact((HB.out.trans (HAP.out.da.mono (by have:=zd HK.out.1;omega))).grown HG9.out (by have:=HAP.out.sz;omega) (fun j e=>by have:=HAP.out.ol j e;omega)).setCell (p:=⟨O,1,none⟩) (zzL _) _
   ·obtain rfl:k=sx.length:=by omega
    as_aux_lemma=>
    have htk:(zbZ sx tx).take sx.length=zbZ sx tx:=List.take_of_length_le (by rw [zdb];exact zzL _);have hown:=HK.out.2;rw [htk]at hown;obtain⟨ao2,c2,hv,hints,hcap⟩:=hown.ints;rw [zdb]at hv hcap;injection hv with e1 e2 e3;subst e1;subst e3;have htr:=zgf (zbZ sx tx) ao c wr hints (by rw [zdb];omega) (by rw [zdb];exact hcap);rw [zdb,zkh]at htr;have HTR:=zzH htr;have HRO:=zzH HK.out.1;clear htr hints hcap hown htk HK;go_wp2_with fail;refine HTR.out.mono ?_;rintro e w6 ⟨⟨v6,rfl,ho6⟩,hb6⟩;obtain⟨xo5,xc5,rfl,hi6,hc6⟩:=ho6.ints;have hro6:=(hb6.block O (zd HRO.out)).trans HRO.out;have HB6:=zzH (HB.out.trans (hb6.mono (zzb (zd HRO.out))));have y1:=zzq0 _ _ 1 _ _ _ hro6;have y2:=zzq5 _ _ 1 _ _ hro6;have HR6:=zzH hro6;have HI6:=zzH (zzI hi6 hc6);clear hro6 hi6 hc6 ho6 hb6 HTR HB HRO q1 q2 q3 hai hbi;go_upto_region 13 with fail;have hr7:=zzS _ O 1 _ _ (.slice xo5 (zA (zH sx tx)).length xc5) HR6.out;have HB7:=zzH (HB6.out.setCell (p:=⟨O,1,none⟩) (zzL _) (.slice xo5 (zA (zH sx tx)).length xc5));have HI7:=zzH ((HI6.out.1.up).setFar (i:=1) (v:=.slice xo5 (zA (zH sx tx)).length xc5) HR6.out (by decide));have hs7:(w6.setCell ⟨O,1,none⟩ (.slice xo5 (zA (zH sx tx)).length xc5)).heap.size=w6.heap.size:=by simp [World.setCell]
    have HS7:=zzH hs7;clear hs7;have ho6:=zd HR6.out;generalize w6.heap.size=B7 at *;refine zzK3 HI6.out.2 hr7 ho6 fun HC7 HR7 HX7=>?_;clear hr7 y1 y2 HR6 HB6 HI6 ho6;generalize w6.setCell _ _=w7 at *;obtain⟨xl5,hxl⟩: ∃xl5,xl5=(zA (zH sx tx)).length:=⟨_,rfl⟩;rw [<-hxl]at HR7 HC7;have HXL:=zzH hxl;clear hxl;go_wp2_with fail;go_loopw [8] (fun v wr=> ∃(k:Nat) (ao:zzA) (c:Nat),k<=sy.length/\v= .int .i64 k/\Hid (wr.heap[O]?=some (.cells #[.int .i64 f,.slice xo5 xl5 xc5,.slice ao k c,.slice to' tr.length tc,.bool mm,.int .i64 r,.int .i64 g] 40 (0,0))/\OwnI wr B7 (.slice ao k c) ((zH sy ty).take k))/\Hid (Below O V wr)/\Hid (IntsUp wr B7 xo5 (zA (zH sx tx)))/\Hid (B7<=wr.heap.size)) (fun v _=>sy.length-(intOf v).toNat)
    case atStart=>exact⟨0,none,0,zzZ _,rfl,zzH ⟨HR7.out,by rw [List.take_zero];exact World.ownsRow_nil _ _ _ _⟩,HB7,HI7,zzH (Nat.le_of_eq HS7.out.symm)⟩
    case round=>
     clear HB7 HI7 HR7 HS7;obtain⟨k,ao,c,hk,rfl,HK,HB,HI,HN⟩:=hrel;rename World=>wr
     have hai:=(HB.out.block _ HAL.out).trans HAV.out;have hbi:=(HB.out.block _ HBL.out).trans HBV.out;have q1:=zzq0 _ _ 2 _ _ _ hai;have q2:=zzq0 _ _ 2 _ _ _ hbi;have q3:=zzq0 _ _ 2 _ _ _ HK.out.1;simp only [List.getElem?_toArray,List.getElem?_cons_zero,List.getElem?_cons_succ]at q1 q2 q3;by_cases hlt:k<sy.length
     ·as_aux_lemma=>
      have hlt2:k<ty.length:=by rw [<-HY.out];exact hlt
      obtain⟨pb,po,rfl,hpO,hpb,e1⟩:=(HSY.out.below HB.out).cell hlt;obtain⟨pc,pd,rfl,hpO2,hpc,e2⟩:=(HTY.out.below HB.out).cell hlt2;have hk0:(0:Int)<=(k:Int):=by omega
      have hk1:(k:Int)<(sy.length:Int):=by omega
      have hk2:(k:Int)<(ty.length:Int):=by omega
      go_upto_region 16 with fail;obtain⟨J,hJ⟩: ∃J,J=zT (sy.getD k 0) (ty.getD k 0):=⟨_,rfl⟩;have hlen:((zH sy ty).take k).length=k:=by rw [List.length_take,zdr,<-HY.out];omega
      have hap:=zqC (J:=J) HK.out.1 HK.out.2 hlen HN.out;have HAP:=zzH hap;have HJC:=zzH (zgA (sy.getD k 0) (ty.getD k 0) wr.drew);rw [<-hJ]at HJC;have hst:(zH sy ty).take (k+1)=(zH sy ty).take k++ [J]:=by rw [zlz hlt hlt2,hJ]
      have HST:=zzH hst;have HLE:=zzH hlen;clear hst;generalize sy.getD k 0=ea at *;generalize ty.getD k 0=eb at *;have hkN:(k:Nat)<=10000:=by omega
      have K1:Hid (wr.drew.cell? ⟨w.heap.size,2,none⟩=some (.slice (some ⟨pb,po,none⟩) sy.length yc)/\wr.drew.cell? ⟨w.heap.size+1,2,none⟩=some (.slice (some ⟨pc,pd,none⟩) ty.length yc2)/\wr.drew.cell? ⟨pb,po+k,none⟩=some (.int .i64 ea)/\wr.drew.cell? ⟨pc,pd+k,none⟩=some (.int .i64 eb)/\wr.drew.cell? ⟨O,2,none⟩=some (.slice ao k c)):=zzH ⟨by simpa using q1,by simpa using q2,by simpa using e1,by simpa using e2,by simpa using q3⟩;have K2:Hid ((wr.drew.alloc (.cells #[.int .i64 J] 3)).cell? ⟨w.heap.size,2,none⟩=some (.slice (some ⟨pb,po,none⟩) sy.length yc)/\(wr.drew.alloc (.cells #[.int .i64 J] 3)).cell? ⟨w.heap.size+1,2,none⟩=some (.slice (some ⟨pc,pd,none⟩) ty.length yc2)/\(wr.drew.alloc (.cells #[.int .i64 J] 3)).cell? ⟨pb,po+k,none⟩=some (.int .i64 ea)/\(wr.drew.alloc (.cells #[.int .i64 J] 3)).cell? ⟨pc,pd+k,none⟩=some (.int .i64 eb)/\(wr.drew.alloc (.cells #[.int .i64 J] 3)).cell? ⟨O,2,none⟩=some (.slice ao k c)):=zzH ⟨(HAP.out.da.cell (p:=⟨w.heap.size,2,none⟩) (zd hai)).trans q1,(HAP.out.da.cell (p:=⟨w.heap.size+1,2,none⟩) (zd hbi)).trans q2,(HAP.out.da.cell (p:=⟨pb,po+k,none⟩) hpb).trans e1,(HAP.out.da.cell (p:=⟨pc,pd+k,none⟩) hpc).trans e2,(HAP.out.da.cell (p:=⟨O,2,none⟩) (zd HK.out.1)).trans q3⟩;clear hai hbi hJ q1 q2 q3 e1 e2 hlen;refine zbr 14 (fun w'=>True) (fun w'=>w'.cell? ⟨w.heap.size,2,none⟩=some (.slice (some ⟨pb,po,none⟩) sy.length yc)/\w'.cell? ⟨w.heap.size+1,2,none⟩=some (.slice (some ⟨pc,pd,none⟩) ty.length yc2)/\w'.cell? ⟨pb,po+k,none⟩=some (.int .i64 ea)/\w'.cell? ⟨pc,pd+k,none⟩=some (.int .i64 eb)/\w'.cell? ⟨O,2,none⟩=some (.slice ao k c)) (by kernel_rfl) ⟨trivial,K1.out⟩ (fun hHeld=>?_);refine zg 0 hHeld ?_;simp only [zzX0];refine zt [] 1 hHeld ?_;simp only [zzX0];refine zg 2 hHeld ?_;simp only [zzX0];refine zt [13,12,6,5] 3 hHeld ?_;simp only [zzX0];refine zg 4 hHeld ?_;simp only [zzX0];refine zg 5 hHeld ?_;simp only [zzX0];refine zt [13,12] 6 hHeld ?_;simp only [zzX0];refine zg 7 hHeld ?_;simp only [zzX0];refine zt [13,12,11,10] 8 hHeld ?_;simp only [zzX0];refine zg 9 hHeld ?_;simp only [zzX0];refine zg 10 hHeld ?_;simp only [zzX0];refine zt [13,12] 11 hHeld ?_;simp only [zzX0];refine zE 12 fun KK hK=>?_
      go_simp;refine HJC.out.mono ?_;rintro e w5 ⟨rfl,rfl⟩;go_wp2_with fail;refine hK.out _ _ hHeld ?_;clear hK KK
      try simp only [zzX0]
      refine zE 13 fun KK hK=>?_
      go_simp;refine hK.out _ _ ⟨trivial,K2.out⟩ ?_;clear hK KK
      try simp only [zzX0]
      refine zO 14 fun KK hK=>?_
      refine step_append_lies _ rfl (.tmp 84) (.tmp 96) 38 rfl B7 3 i0 _ 1 8 Tryz.underlying38 hi hz0 hz1 hz2 rfl (by decide) (.slice ao k c) k (((zH sy ty).take k).map (Value.int .i64)) rfl HAP.out.own ⟨wr.heap.size,0,none⟩ 1 1 [.int .i64 J] rfl rfl (World.news_of_block HAP.out.news) (by simp [Value.oneCell']) (by decide) (by unfold maxLen;omega) (by omega) HAP.out.sz _ rfl ?_;intro g9 cap9 w9 ho9 hg9 hat9 hlt9;have hr9:=(hg9.block O (zd HAP.out.row) (HAP.out.far O HX7.out)).trans HAP.out.row;have HR9:=zzH hr9;have p9:=zzq0 _ _ 2 _ _ _ hr9;have z9:=zzq5 _ _ 2 _ _ hr9;have HO9:=zzH ho9;have HG9:=zzH hg9;clear hr9 ho9 hg9 hat9;refine hK.out _ _ trivial ?_;clear hK KK
      try simp only [zzX0]
      refine zO 15 fun KK hK=>?_
      go_simp;refine hK.out _ _ trivial ?_;clear hK KK
      try simp only [zzX0]
      refine zO 16 fun KK hK=>?_
      go_simp;refine hK.out _ _ trivial ?_;clear hK KK
      try simp only [zzX0]
      refine zbq (by kernel_rfl) ?_ _;go_wp2_with fail;refine⟨⟨k+1,some ⟨g9,0,none⟩,cap9,hlt,by go_num,zzH ⟨zzS _ _ _ _ _ _ HR9.out,?_⟩,zzH ?_,zzH ?_,zzH ?_⟩,by simp [intOf];omega⟩
      ·rw [HST.out]
       have h5:=ownsRow_setCell_below HO9.out (a:=⟨O,2,none⟩) HX7.out (.slice (some ⟨g9,0,none⟩) (k+1) cap9);unfold OwnI;rw [zzq12,HLE.out,List.map_append];exact h5
      ·exact((HB.out.trans (HAP.out.da.mono (by have:=zd HK.out.1;omega))).grown HG9.out (by have:=HAP.out.sz;have:=HX7.out;omega) (fun j e=>by have:=HAP.out.ol j e;have:=HX7.out;omega)).setCell (p:=⟨O,2,none⟩) (zzL _) _
      ·exact(((HI.out.below (((zzR _ _).drew.alloc (zzL _) _).mono HN.out)).grown HG9.out HAP.out.far).setFar HR9.out (by decide))
      ·have h1:=HAP.out.sz;have h2:=HG9.out.size
       simp [World.setCell]at h1 h2 ⊢;omega
     ·obtain rfl:k=sy.length:=by omega
      as_aux_lemma=>
      have htk:(zH sy ty).take sy.length=zH sy ty:=List.take_of_length_le (by rw [zdr];omega);have hown:=HK.out.2;rw [htk]at hown;obtain⟨ao2,c2,hv,hints,hcap⟩:=hown.ints;have hjl:(zH sy ty).length=sy.length:=by rw [zdr,<-HY.out];omega
      rw [hjl]at hv hcap;injection hv with e1 e2 e3;subst e1;subst e3;refine zzK3 HK.out.1 ((HB.out.block _ HRL.out).trans HRV.out) (zzI hints (zzI hcap hjl)) fun HRO HRR HFIN=>?_;clear hints hcap hown htk HK hai hbi q2 hjl;go_upto_region 17 with fail;clear q1 q3;refine wp_region_list ?_;refine wpList_load_row rfl 40 (.tmp 6) rfl O rfl 40 _ _ _ HRO.out Tryz.underlying40 rfl (by kernel_rfl) ?_;refine zzm rfl 40 (.tmp 4) (.tmp 99) rfl (w.heap.size+1+1) #[.int .i64 f,.slice xo5 xl5 xc5,.slice ao sy.length c,.slice to' tr.length tc,.bool mm,.int .i64 r,.int .i64 g] rfl rfl 40 _ HRR.out (by kernel_rfl) rfl (by simp [Value.oneCell']) ?_;have HRZ:=zzH (setRow_heap wr (w.heap.size+1+1) _ #[.int .i64 f,.slice xo5 xl5 xc5,.slice ao sy.length c,.slice to' tr.length tc,.bool mm,.int .i64 r,.int .i64 g] _ _ HRR.out);have HBZ:=zzH (below_setRow (HWV.out.trans (HB.out.mono (by have:=HRL.out;omega))) (g:=w.heap.size+1+1) (by omega) #[.int .i64 f,.slice xo5 xl5 xc5,.slice ao sy.length c,.slice to' tr.length tc,.bool mm,.int .i64 r,.int .i64 g]);have HKZ:Hid (KeepI wr (wr.setRow (w.heap.size+1+1) #[.int .i64 f,.slice xo5 xl5 xc5,.slice ao sy.length c,.slice to' tr.length tc,.bool mm,.int .i64 r,.int .i64 g])):=zzH (KeepI.setRow HRR.out (by decide) _);generalize wr.setRow _ _=WZ at *;go_wp2_with fail;refine zzj (zbn rfl _ _ _ (w.heap.size+1+1) _ _ _ _ rfl HRZ.out Tryz.underlying40 (by kernel_rfl)) rfl ?_;refine⟨⟨[.int .i64 f,.slice xo5 xl5 xc5,.slice ao sy.length c,.slice to' tr.length tc,.bool mm,.int .i64 r,.int .i64 g],rfl,xo5,xc5,ao,c,to',tc,?_,?_⟩,HBZ.out⟩
      ·unfold zbf zj
       simp only;rw [HFIN.out.2.2,<-HXL.out,HM2.out,HMM.out]
      ·have hI:KeepI V WZ:=(KeepI.below (by rw [HO.out];exact HB.out)).trans HKZ.out
       refine⟨HI.out.at.keepI HKZ.out,HFIN.out.1.keepI HKZ.out,HTR2.out.keepI hI,?_,?_,HSL.out.2.2⟩
       ·show(zA (zH sx tx)).length<=xc5
        rw [<-HXL.out];exact HC7.out
       ·show(zH sy ty).length<=c
        rw [HFIN.out.2.2];exact HFIN.out.2.1
theorem zgI {l:List VSt} (h0:0<l.length) (h:zbC l=0) (j:Nat) (hj:j<l.length):zG l[j] l[0]=0:=by
 have h1: ∀j (hj:j<l.length),l[j].frame=l[0].frame:=fun j hj=>Classical.byContradiction fun e=>by rw [zhb h0 ⟨j,hj,e⟩]at h;exact absurd h (by decide)
 have h2: ∀j (hj:j<l.length),l[j].tries=l[0].tries:=fun j hj=>Classical.byContradiction fun e=>by rw [zg8 h0 h1 ⟨j,hj,e⟩]at h;exact absurd h (by decide)
 have h3: ∀j (hj:j<l.length),l[j].recv=l[0].recv:=fun j hj=>Classical.byContradiction fun e=>by rw [zeL h0 h1 h2 ⟨j,hj,.inl e⟩]at h;exact absurd h (by decide)
 have h4: ∀j (hj:j<l.length),l[j].frm=l[0].frm:=fun j hj=>Classical.byContradiction fun e=>by rw [zeL h0 h1 h2 ⟨j,hj,.inr e⟩]at h;exact absurd h (by decide)
 exact clash_zero.2 ⟨h1 j hj,h2 j hj,h3 j hj,h4 j hj⟩
theorem zfX {l:List VSt} {k:Nat} (h1:1<=k) (hk:k<l.length):zbv (l.take (k+1))=zbf (zbv (l.take k)) l[k]:=by
 cases l with
 |nil=>exact absurd hk (zzC _)
 |cons a r=>
  obtain⟨m,rfl⟩: ∃m,k=m+1:=⟨k-1,by omega⟩;have hm:m<r.length:=by simpa using hk
  show(r.take (m+1)).foldl zbf a=zbf ((r.take m).foldl zbf a) r[m];rw [List.take_succ_eq_append_getElem hm,List.foldl_append];rfl
def zeb (l:List VSt):VSt:=if 0<l.length/\zbC l=0 then zbv l else VSt.zero
theorem zbU (s:VSt) (xo yo to':zzA) (xc yc tc:Nat):(zj s xo xc yo yc to' tc).all (·.oneCell')=true:=by
 simp [zj,Value.oneCell']
theorem zn8 (s t:VSt) (xo yo to' xo2 yo2 to2:zzA) (xc yc tc xc2 yc2 tc2:Nat) (w:World) (hs:StLs w s xo xc yo yc to' tc) (ht:StLs w t xo2 xc2 yo2 yc2 to2 tc2) (ls:VLen s) (lt:VLen t) (hc:zG s t=0) (hy:s.y.length=t.y.length):
  Calls Tryz.prog 83 #[.agg (zzs s xo xc yo yc to' tc),.agg (zzs t xo2 xc2 yo2 yc2 to2 tc2)] w
   fun e w'=>(∃xo3 xc3 yo3 yc3 to3 tc3,e= .returned (.tuple #[.agg (zj (zbf s t) xo3 xc3 yo3 yc3 to3 tc3),.int .i64 0])/\StLs w' (zbf s t) xo3 xc3 yo3 yc3 to3 tc3)/\Below w.heap.size w w':=by
 unfold zzs;refine(zm9 s t xo yo to' xo2 yo2 to2 xc yc tc xc2 yc2 tc2 w hs ht ls lt hc hy).mono ?_;rintro e w' ⟨⟨row,rfl,xo3,xc3,yo3,yc3,to3,tc3,rfl,hl⟩,hb⟩;exact⟨⟨xo3,xc3,yo3,yc3,to3,tc3,by rw [Array.toArray_toList],hl⟩,hb⟩
theorem zef {fn:Func} {p u v:Tmp} {ty:TypeId} (h:fn.results=#[.cell p ty,.tmp u,.tmp v]) (tmps:Array Value) (P:Program) (w:World) (g:Nat) (t:TypeId) (cs:Array Value) (fr:Nat × Nat) (fs:Array Field)
  (hp:tmps.getD p undef= .pointer (some ⟨g,0,none⟩)) (hg:w.heap[g]?=some (.cells cs t fr))
  (hu:P.underlying ty=some (.struct fs)) (hi:(P.info? ty).map (·.size)=some cs.size):
  (results fn tmps).run P w= .ok (.tuple #[.agg cs,tmps.getD u undef,tmps.getD v undef]) w:=by
 have hl:=run_loadVar_row w g t ty cs fr (.struct fs) hg hu rfl hi;have hp':tmps[p]?.getD undef= .pointer (some ⟨g,0,none⟩):=by simpa using hp
 simp [results,h,hp',asAddr,hl]
theorem zfM {P:Program} {ops:Array Oper} {rest:List Oper} {o:Oper} {a:Act} {w:World} {Q:Exit->Act->World->Prop} {v:Value} (hg:o.guard=none) (hrun:(execOp a.eval o).run P w= .ok (.value v) w) (h:wpList P ops Q rest (a.put o.dst v) w):wpList P ops Q (o::rest) a w:=
 wpList_plain hg fun K hK=>by
  unfold Oper.wp;rw [hrun];exact hK _ _ h
abbrev zSt:Array Value:=#[.int .i64 0,.slice none 0 0,.slice none 0 0,.slice none 0 0,.bool false,.int .i64 0,.int .i64 0]
theorem zf7 (w:World):StLs w VSt.zero none 0 none 0 none 0:=⟨.nil _ _,.nil _ _,.nil _ _,zzL _,zzL _,zzL _⟩
def zfm (l:List VSt) (w:World) (e:Ending) (w':World):Prop:=
 (∃xo xc yo yc to' tc,e= .returned (.tuple #[.agg (zj (zeb l) xo xc yo yc to' tc),.bool (decide (0<l.length)),.int .i64 (zbC l)])/\StLs w' (zeb l) xo xc yo yc to' tc)/\Below w.heap.size w w'
theorem zj7 (l:List VSt) (ao:zzA) (c n i:Nat) (w:World) (h:LstAt w ao l) (hs: ∀s∈l,SInv n i s) (hi:i<=1000000) (hn:l.length<=1000000000):
  Calls Tryz.prog 41 #[.slice ao l.length c] w (zfm l w):=by
 refine zzK3 h hs hi fun HL HS HI=>?_;have hn1:(l.length:Int)<=1000000000:=by omega
 have gR:=zzF w (.cells zSt 40);have hb:Below w.heap.size w (w.alloc (.cells zSt 40)):=zzE _ _;have HR:=zzH gR;have HB:=zzH hb;have HZS:Hid ((w.alloc (.cells zSt 40)).heap.size=w.heap.size+1):=zzH (by simp);obtain⟨Q,hQ⟩: ∃Q,Q=zfm l w:=⟨_,rfl⟩;rw [<-hQ];have HQ:=zzH hQ;clear h hs hi gR hb hQ;go_in;go_upto_region 1 with fail;generalize w.alloc _=W at *;by_cases h0:l.length=0
 ·as_aux_lemma=>
  have hl:l= []:=zzQ h0;subst hl;go_upto_region 2 with fail;refine wp_region_list ?_;refine zfM (v:=.agg zSt) rfl (by kernel_rfl) ?_;refine zzm rfl 40 (.tmp 2) (.tmp 11) rfl w.heap.size zSt rfl rfl 40 _ HR.out (by kernel_rfl) rfl (by simp [Value.oneCell']) ?_;have HRZ:=zzH (setRow_heap W w.heap.size _ zSt _ _ HR.out);have HBZ:=zzH (below_setRow HB.out (zzL _) zSt);generalize W.setRow _ _=WZ at *;go_wp2_with fail;refine zzj (zef rfl _ _ _ w.heap.size _ _ _ _ rfl HRZ.out Tryz.underlying40 (by kernel_rfl)) rfl ?_;rw [HQ.out];exact⟨⟨none,0,none,0,none,0,rfl,zf7 _⟩,HBZ.out⟩
 have hp:0<l.length:=by omega
 have u0:((l.length:Int)==0)=false:=zzB.2 (by omega);have HD:=zzH (zjH l ao c W (HL.out.below HB.out) (fun s hm=>((HS.out s hm).ok HI.out).len) hn);obtain⟨D,hD⟩: ∃D,D=zbC l:=⟨_,rfl⟩;rw [<-hD]at HD;have HDD:=zzH hD;clear hD;go_wp2_with fail;refine HD.out.mono ?_;rintro e w1 ⟨rfl,q,hq⟩;have hbq:Below W.heap.size W w1:=by rw [hq];exact zm (zzR _ _) q
 have HR1:=zzH ((hbq.block _ (zd HR.out)).trans HR.out);have HB1:=zzH (ze HB.out hbq);have HS1:Hid (w1.heap.size=w.heap.size+1):=zzH (by rw [hq];exact HZS.out);clear hq hbq HD;by_cases hd:D=0
 case neg=>
  as_aux_lemma=>
  have u1 : (D != 0) = true := zch hd;go_upto_region 5 with fail;refine wp_region_list ?_;refine zfM (v:=.agg zSt) rfl (by kernel_rfl) ?_;refine zfM rfl rfl ?_;refine zzm rfl 40 (.tmp 2) (.tmp 16) rfl w.heap.size zSt rfl rfl 40 _ HR1.out (by kernel_rfl) rfl (by simp [Value.oneCell']) ?_;have HRZ:=zzH (setRow_heap w1 w.heap.size _ zSt _ _ HR1.out);have HBZ:=zzH (below_setRow HB1.out (zzL _) zSt);generalize w1.setRow _ _=WZ at *;go_wp2_with fail;refine zzj (zef rfl _ _ _ w.heap.size _ _ _ _ rfl HRZ.out Tryz.underlying40 (by kernel_rfl)) rfl ?_;have hbv:zeb l=VSt.zero:=by unfold zeb;rw [if_neg (fun h=>hd (by rw [HDD.out];exact h.2))]
  rw [HQ.out];unfold zfm;rw [hbv,<-HDD.out,decide_eq_true hp];exact⟨⟨none,0,none,0,none,0,rfl,zf7 _⟩,HBZ.out⟩
 subst hd;obtain⟨b,xo,xc,yo,yc,to',tc,rfl,hbl,e0,e1,e2,e3,e4,e5,e6,hL⟩:=(HL.out.below HB1.out).cells hp;rw [Nat.zero_mul,]at e0;rw [Nat.zero_mul,Nat.zero_add]at e1 e2 e3 e4 e5 e6;have hpi:(0:Int)<(l.length:Int):=by omega
 obtain⟨S0,hS0⟩: ∃S0,S0=l[0]:=⟨_,rfl⟩;rw [<-hS0]at e0 e1 e2 e3 e4 e5 e6 hL;have HS0:=zzH hS0;clear hS0;go_upto_region 7 with fail;have gO:=zzF w1 (.cells #[.int .i64 S0.frame,.slice xo S0.x.length xc,.slice yo S0.y.length yc,.slice to' S0.tries.length tc,.bool S0.mt,.int .i64 S0.recv,.int .i64 S0.frm] 40);have hbX:Below w1.heap.size w1 (w1.alloc (.cells (zzs S0 xo xc yo yc to' tc) 40)):=zzE _ _;have HLX:=zzH (hL.below hbX);have HLW:=zzH (HL.out.below HB1.out);generalize w1.alloc _=X at *;generalize hO:w1.heap.size=O at *;refine zzK3 hO gO hbX fun HOO HGO HBX=>?_;have hRO:w.heap.size<O:=by rw [<-hO];exact zd HR1.out
 skip
 clear e0 e1 e2 e3 e4 e5 e6 hL gO hbX hO hbl;go_wp2_with fail;go_loopw [7] (fun v wr=> ∃(k:Nat) (S:VSt) (xo:zzA) (xc:Nat) (yo:zzA) (yc:Nat) (to':zzA) (tc:Nat),1<=k/\k<=l.length/\v= .int .i64 k/\Hid (S=zbv (l.take k)/\SInv n i S/\zG S S0=0)/\Hid (wr.heap[O]?=some (.cells #[.int .i64 S.frame,.slice xo S.x.length xc,.slice yo S.y.length yc,.slice to' S.tries.length tc,.bool S.mt,.int .i64 S.recv,.int .i64 S.frm] 40 (0,0)))/\Hid (StLs wr S xo xc yo yc to' tc)/\Hid (Below O w1 wr)) (fun v _=>l.length-(intOf v).toNat)
 case atStart=>
  refine⟨1,S0,xo,xc,yo,yc,to',tc,zzL _,hp,rfl,zzH ⟨?_,?_,clash_zero.2 ⟨rfl,rfl,rfl,rfl⟩⟩,HGO,HLX,HBX⟩
  ·rw [HS0.out]
   cases l with
   |nil=>exact absurd hp (Nat.lt_irrefl _)
   |cons a r=>rfl
  ·rw [HS0.out];exact HS.out _ (zzM hp)
 case round=>
  obtain⟨k,S,xo,xc,yo,yc,to',tc,hk1,hk2,rfl,HK,HRO,HSL,HBk⟩:=hrel;rename World=>wr
  by_cases hlt:k<l.length
  ·as_aux_lemma=>
   have hk0:(0:Int)<=(k:Int):=by omega
   have hkl:(k:Int)<(l.length:Int):=by omega
   have hLk:LstAt wr (some ⟨b,0,none⟩) l:=HLW.out.below (by rw [HOO.out];exact HBk.out);obtain⟨b',xo2,xc2,yo2,yc2,to2,tc2,hbb,hbl,e0,e1,e2,e3,e4,e5,e6,hT⟩:=hLk.cells hlt;injection hbb with hbb;injection hbb with hbb;subst hbb;obtain⟨q0,q1,q2,q3,q4,q5,q6⟩:=zN HRO.out;have hsk:=HS.out _ (zzM hlt)
   have hck:zG S l[k]=0:=by
    have h1:=clash_zero.1 HK.out.2.2;have h2:=clash_zero.1 (zgI hp HDD.out.symm k hlt);rw [HS0.out]at h1;exact clash_zero.2 ⟨h1.1.trans h2.1.symm,h1.2.1.trans h2.2.1.symm,h1.2.2.1.trans h2.2.2.1.symm,h1.2.2.2.trans h2.2.2.2.symm⟩
   have hfr:S.frame=l[k].frame:=(clash_zero.1 hck).1;have hST:zbf S l[k]=zbv (l.take (k+1)):=by rw [zfX hk1 hlt,<-HK.out.1]
   have HNX:Hid (zbf S l[k]=zbv (l.take (k+1))/\SInv n i (zbf S l[k])/\zG (zbf S l[k]) S0=0):=zzH ⟨hST,zgN HK.out.2.1 hsk hfr,clash_zero.2 (clash_zero.1 HK.out.2.2)⟩;have HJC:=zzH (zn8 S l[k] xo yo to' xo2 yo2 to2 xc yc tc xc2 yc2 tc2 wr.drew (HSL.out.below ((zzR _ _).drew)) (hT.below ((zzR _ _).drew)) (HK.out.2.1.ok HI.out).len (hsk.ok HI.out).len hck (by rw [HK.out.2.1.y,hsk.y,hfr]));generalize l[k]=T at *;clear hsk hck hfr hST hT hLk;go_upto_region 10 with fail;have K1:Hid (zzrS wr.drew O S xo xc yo yc to' tc (zzrSot wr.drew b (k*7) T xo2 xc2 yo2 yc2 to2 tc2)):=zzH ⟨by simpa using q0,by simpa using q1,by simpa using q2,by simpa using q3,by simpa using q4,by simpa using q5,by simpa using q6,by simpa using e0,by simpa using e1,by simpa using e2,by simpa using e3,by simpa using e4,by simpa using e5,by simpa using e6⟩;refine zbr 9 (fun w'=>True) (fun w'=>zzrS w' O S xo xc yo yc to' tc (zzrSot w' b (k*7) T xo2 xc2 yo2 yc2 to2 tc2)) (by kernel_rfl) ⟨trivial,K1.out⟩ (fun hHeld=>?_);refine zt [7,6,5] 0 hHeld ?_;simp only [zzX0];refine zg 1 hHeld ?_;simp only [zzX0];refine zg 2 hHeld ?_;simp only [zzX0];refine zg 3 hHeld ?_;simp only [zzX0];refine zt [7,6,5] 4 hHeld ?_;simp only [zzX0];refine zE 5 fun KK hK=>?_
   go_simp;refine HJC.out.mono ?_;rintro e w5 ⟨⟨xo5,xc5,yo5,yc5,to5,tc5,rfl,hl5⟩,hb5⟩;have hbd:=(zzR wr.heap.size wr).drew.trans hb5;have K5:Hid (zzrS w5 O S xo xc yo yc to' tc (zzrSot w5 b (k*7) T xo2 xc2 yo2 yc2 to2 tc2)):=zzH ⟨(hbd.cell (p:=⟨O,0,none⟩) (zd HRO.out)).trans q0,(hbd.cell (p:=⟨O,1,none⟩) (zd HRO.out)).trans q1,(hbd.cell (p:=⟨O,2,none⟩) (zd HRO.out)).trans q2,(hbd.cell (p:=⟨O,3,none⟩) (zd HRO.out)).trans q3,(hbd.cell (p:=⟨O,4,none⟩) (zd HRO.out)).trans q4,(hbd.cell (p:=⟨O,5,none⟩) (zd HRO.out)).trans q5,(hbd.cell (p:=⟨O,6,none⟩) (zd HRO.out)).trans q6,(hbd.cell (p:=⟨b,k*7,none⟩) hbl).trans e0,(hbd.cell (p:=⟨b,k*7+1,none⟩) hbl).trans e1,(hbd.cell (p:=⟨b,k*7+2,none⟩) hbl).trans e2,(hbd.cell (p:=⟨b,k*7+3,none⟩) hbl).trans e3,(hbd.cell (p:=⟨b,k*7+4,none⟩) hbl).trans e4,(hbd.cell (p:=⟨b,k*7+5,none⟩) hbl).trans e5,(hbd.cell (p:=⟨b,k*7+6,none⟩) hbl).trans e6⟩;refine zzK3 hl5 hbd ((hbd.block O (zd HRO.out)).trans HRO.out) fun HL5 HB5 HR5=>?_;clear hl5 hb5 hbd;go_wp2_with fail;refine hK.out _ _ ⟨trivial,K5.out⟩ ?_;clear hK KK
   try simp only [zzX0]
   refine zg 6 ⟨trivial,K5.out⟩ ?_;simp only [zzX0];refine zg 7 ⟨trivial,K5.out⟩ ?_;simp only [zzX0];refine zg 8 ⟨trivial,K5.out⟩ ?_;simp only [zzX0];refine zO 9 fun KK hK=>?_
   rw [if_pos (by rfl)];refine wp_store_row 40 (.tmp 6) (.tmp 34) rfl O (zj (zbf S T) xo5 xc5 yo5 yc5 to5 tc5) rfl rfl 40 _ HR5.out (by kernel_rfl) rfl (zbU _ _ _ _ _ _ _) ?_;refine hK.out _ _ trivial ?_;clear hK KK
   try simp only [zzX0]
   refine zbq (by kernel_rfl) ?_ _;have HSZ:=zzH (setRow_heap w5 O _ (zj (zbf S T) xo5 xc5 yo5 yc5 to5 tc5) _ _ HR5.out);have HKZ:Hid (KeepI w5 (w5.setRow O (zj (zbf S T) xo5 xc5 yo5 yc5 to5 tc5))):=zzH (KeepI.setRow HR5.out (by decide) _);have HBZ:=zzH (below_setRow (HBk.out.trans (HB5.out.mono (zzb (zd HRO.out)))) (zzL O) (zj (zbf S T) xo5 xc5 yo5 yc5 to5 tc5));generalize w5.setRow _ _=WZ at *;clear K1 K5 hHeld;go_wp2_with fail;exact⟨⟨k+1,zbf S T,xo5,xc5,yo5,yc5,to5,tc5,by omega,hlt,by go_num,HNX,HSZ,zzH (HL5.out.keepI HKZ.out),HBZ⟩,by simp [intOf];omega⟩
  ·obtain rfl:k=l.length:=by omega
   as_aux_lemma=>
   have HRR:=zzH ((HBk.out.block _ hRO).trans HR1.out);have hq0:=HRO.out;go_upto_region 11 with fail;refine wp_region_list ?_;refine wpList_load_row rfl 40 (.tmp 6) rfl O rfl 40 _ _ _ HRO.out Tryz.underlying40 rfl (by kernel_rfl) ?_;refine zzm rfl 40 (.tmp 2) (.tmp 36) rfl w.heap.size #[.int .i64 S.frame,.slice xo S.x.length xc,.slice yo S.y.length yc,.slice to' S.tries.length tc,.bool S.mt,.int .i64 S.recv,.int .i64 S.frm] rfl rfl 40 _ HRR.out (by kernel_rfl) rfl (by simp [Value.oneCell']) ?_;have HRZ:=zzH (setRow_heap wr w.heap.size _ #[.int .i64 S.frame,.slice xo S.x.length xc,.slice yo S.y.length yc,.slice to' S.tries.length tc,.bool S.mt,.int .i64 S.recv,.int .i64 S.frm] _ _ HRR.out);have HBZ:=zzH (below_setRow (HB1.out.trans (HBk.out.mono (zzb hRO))) (zzL _) #[.int .i64 S.frame,.slice xo S.x.length xc,.slice yo S.y.length yc,.slice to' S.tries.length tc,.bool S.mt,.int .i64 S.recv,.int .i64 S.frm]);have HKZ:Hid (KeepI wr (wr.setRow w.heap.size #[.int .i64 S.frame,.slice xo S.x.length xc,.slice yo S.y.length yc,.slice to' S.tries.length tc,.bool S.mt,.int .i64 S.recv,.int .i64 S.frm])):=zzH (KeepI.setRow HRR.out (by decide) _);generalize wr.setRow _ _=WZ at *;clear hq0;go_wp2_with fail;refine zzj (zef rfl _ _ _ w.heap.size _ _ _ _ rfl HRZ.out Tryz.underlying40 (by kernel_rfl)) rfl ?_;have hbv:zeb l=S:=by unfold zeb;rw [if_pos ⟨hp,HDD.out.symm⟩,HK.out.1,List.take_length]
   rw [HQ.out];unfold zfm;rw [hbv,<-HDD.out,decide_eq_true hp];exact⟨⟨xo,xc,yo,yc,to',tc,rfl,HSL.out.keepI HKZ.out⟩,HBZ.out⟩
def zcg (l:List RArg):List Value:=l.flatMap fun a=>[.int .i64 a.kind,.int .i64 a.n]
theorem zhd (l m:List RArg):zcg (l++m)=zcg l++zcg m:=by unfold zcg;rw [List.flatMap_append]
theorem zfo: ∀l:List RArg,(zcg l).length=l.length*2
 |[]=>rfl
 |a::l=>by
  show(zcg ([a]++l)).length=_;rw [zhd,zzq12,zfo l];simp [zcg];omega
theorem zf6: ∀(l:List RArg) (j:Nat) (h:j<l.length),(zcg l)[j*2]?=some (.int .i64 l[j].kind)/\(zcg l)[j*2+1]?=some (.int .i64 l[j].n)
 |[],j,h=>absurd h (zzC _)
 |a::l,0,_=>⟨rfl,rfl⟩
 |a::l,j+1,h=>by
  obtain⟨h1,h2⟩:=zf6 l j (by simpa using h);have e:zcg (a::l)= [.int .i64 a.kind,.int .i64 a.n]++zcg l:=rfl;have e1:(j+1)*2=j*2+2:=by omega
  rw [e,e1];refine⟨?_,?_⟩
  ·rw [List.getElem?_append_right (by simp)];simpa using h1
  ·rw [List.getElem?_append_right (by simp)];simpa using h2
theorem zlR (l:List RArg): ∀u∈zcg l,u.oneCell'=true:=by
 intro u hu;unfold zcg at hu;obtain⟨a,-,h⟩:=List.mem_flatMap.1 hu;simp at h;rcases h with rfl|rfl<;>rfl
def OwnA (w:World) (B:Nat) (v:Value) (l:List RArg):Prop:=w.ownsRow B 42 2 v l.length (zcg l)
theorem OwnA.cell {w:World} {B:Nat} {v:Value} {l:List RArg} (h:OwnA w B v l): ∃ao c,v= .slice ao l.length c/\ ∀j (hj:j<l.length),∃b,ao=some ⟨b,0,none⟩/\b<w.heap.size/\w.cell? ⟨b,j*2,none⟩=some (.int .i64 l[j].kind)/\w.cell? ⟨b,j*2+1,none⟩=some (.int .i64 l[j].n):=by
 rcases h.2 with⟨rfl,h0⟩|⟨g,cap,cur,rfl,hB,hg,h1,h2,h3,h4⟩
 ·exact⟨none,0,by rw [h0],fun j hj=>by omega⟩
 ·refine⟨_,_,rfl,fun j hj=>⟨g,rfl,zd hg,?_⟩⟩
  obtain⟨k1,k2⟩:=zf6 l j hj
  have key: ∀i v,i<l.length*2->(zcg l)[i]?=some v->w.cell? ⟨g,i,none⟩=some v:=fun i v hi h5=>by
   rw [zzq0 _ _ _ _ _ _ hg];rw [<-h4,List.getElem?_take_of_lt hi,Array.getElem?_toList]at h5;exact h5
  exact⟨key _ _ (by omega) k1,key _ _ (by omega) k2⟩
theorem OwnA.below {w w':World} {B:Nat} {v:Value} {l:List RArg} (h:OwnA w B v l) (hb:Below w.heap.size w w'):OwnA w' B v l:=World.ownsRow.kept h (zdU hb none) (by cases v.ownBlock<;>simp)
theorem zi1 {l:List RSeg}: ∀{k:Nat} (h:k<l.length),zW (l.take (k+1))=zW (l.take k)++(l[k].val::(if l[k].size.kind=0/\l[k].size.n=0 then []else [l[k].size])):=by
 induction l with
 |nil=>intro k h;exact absurd h (zzC _)
 |cons g l ih=>
  intro k h
  cases k with
  |zero=>
   show zW [g]=_;simp only [zW,List.take_zero,List.nil_append,List.getElem_cons_zero]
  |succ k=>
   have:=ih (k:=k) (by simpa using h);show zW (g::l.take (k+1))=zW (g::l.take k)++_;simp only [zW,List.getElem_cons_succ];rw [this];split<;>simp
theorem zer: ∀l:List RSeg,(zW l).length<=2*l.length
 |[]=>zzL _
 |g::l=>by
  have:=zer l;unfold zW;split<;>simp<;>omega
theorem zot:(Tryz.prog.info? 42).map (fun i=>(i.zero,i.size,i.bytes))=some (some (.agg #[.int .i64 0,.int .i64 0]),2,16):=by kernel_rfl
theorem zlJ (k:Nat):zbJ (k+1)=zbJ k++ [⟨1,(k:Int)⟩]:=by
 unfold zbJ;rw [List.range_succ,List.map_append];rfl
theorem SlAt.newsA {w:World} {ao:zzA} {l:List RArg} (h:SlAt w 2 zeG ao l) (hl:0<l.length): ∃b off,ao=some ⟨b,off,none⟩/\b<w.heap.size/\ ∀j u,(zcg l)[j]?=some u->w.cell? ((⟨b,off,none⟩:Addr).add j)=some u:=by
 obtain⟨b,off,e,hb,-⟩:=h.row hl;refine⟨b,off,e,hb,fun j u hj=>?_⟩;have hj1:j<l.length*2:=by rw [<-zfo];exact(List.getElem?_eq_some_iff.1 hj).1
 have hjk:j/2<l.length:=by omega
 obtain⟨b',off',e',-,q0,q1,-⟩:=h.arg hjk;rw [e]at e';injection e' with e';injection e' with e1 e2;subst e1;subst e2;obtain⟨k1,k2⟩:=zf6 l (j/2) hjk;rw [show(⟨b,off,none⟩:Addr).add j=⟨b,off+j,none⟩by simp [Addr.add]];rcases Nat.mod_two_eq_zero_or_one j with h2|h2
 ·have e:j=j/2*2:=by omega
  rw [<-e]at k1;rw [k1]at hj;injection hj with hj;rw [<-hj,<-q0,<-e]
 ·have e:j=j/2*2+1:=by omega
  rw [<-e]at k2;rw [k2]at hj;injection hj with hj;rw [<-hj,<-q1,Nat.add_assoc,<-e]
theorem OwnA.snoc {w:World} {B:Nat} {v:Value} {l:List RArg} {a:RArg} (h:w.ownsRow B 42 2 v (l.length+1) (zcg l++ [.int .i64 a.kind,.int .i64 a.n])):OwnA w B v (l++ [a]):=by
 unfold OwnA;rw [zzq12,zhd];exact h
theorem zlX (u:RUnit) (lo fo go co:zzA) (lc fc gc cc:Nat) (x:RIns) (so zo zs:zzA) (sc zc zsc:Nat) (w:World) (hup:UP w u lo fo go co) (hsl:SlAt w 2 zeG so x.src) (hgs:SlAt w 6 zfu zs x.segs) (s0:VSt) (ha:OpdOk u s0 x):
  Calls Tryz.prog 84 #[.agg (zzu u lo lc fo fc go gc co cc),.agg (zzi x so sc zo zc zs zsc)] w
   fun e w'=>(∃v,e= .returned v/\OwnA w' w.heap.size v (zdk u x))/\Below w.heap.size w w':=by
 unfold zzi zzu;obtain⟨gA,gB,hb⟩:=zdV w (.cells #[.string u.mdl,.int .i64 u.vsn,.slice lo u.lits.length lc,.slice fo u.funcs.length fc,.slice go u.funs.length gc,.slice co u.code.length cc] 27) (.cells #[.int .i64 x.op,.int .i64 x.dst.kind,.int .i64 x.dst.n,.slice so x.src.length sc,.int .i64 x.to,.int .i64 x.n,.int .i64 x.live,.string x.name,.slice zo x.cases.length zc,.slice zs x.segs.length zsc] 47);refine zzK7 gA gB hb (hsl.mono hb fun _ _ h=>h) (hgs.mono hb fun _ _ h=>h) (hup.below hb) ha fun HA HB HBB HSR HSG HUP HOK=>?_;have hsl1:=ha.srcLen;have hgl1:=ha.segsLen;obtain⟨i0,hi,hz0,hz1,hz2⟩:=info_parts zot;clear gA gB hb hsl hgs hup ha;go_in;go_upto_region 2 with fail;generalize(w.alloc _).alloc _=W at *;obtain⟨i0',i1,i2,i3,i4,i5,i6,i7,i8,i9⟩:=zC HB.out;have hNW:w.heap.size<=W.heap.size:=HBB.out.size;generalize hN:w.heap.size=N at *;obtain⟨M,hM⟩: ∃M,M=W.heap.size:=⟨_,rfl⟩;refine zzK3 hN hNW hM fun HN HNW HM=>?_;clear hN hNW hM;go_cut [5] (fun v wx=>Hid (OwnA wx M v x.src)/\Hid (Below M W wx))
 case first=>
  by_cases h0:x.src.length=0
  ·have hnil:x.src= []:=zzQ h0
   rw [h0]at i3;have HNIL:=zzH hnil;clear h0 hnil;go_wp2_with (at_builtin;refine zdO rfl (.tmp 9) (.tmp 11) 43 42 rfl i0 Tryz.underlying43 hi rfl so sc rfl ?_);exact zz113
  ·obtain⟨sb,sf,rfl,hsb,hnews⟩:=HSR.out.newsA (by omega)
   have HNEWS:=zzH hnews;have hpos:0<x.src.length:=by omega
   have h63:0+x.src.length<=maxLen:=by unfold maxLen;omega
   have hby:(0+x.src.length)*16<=140737488355328:=by omega
   refine zzK3 h63 hby hpos fun H63 HBY HPOS=>?_;clear hnews h63 hby hpos h0;go_wp2_with (at_builtin;refine wpList_append_lies _ rfl (.tmp 9) (.tmp 11) 43 rfl M 42 i0 _ 2 16 Tryz.underlying43 hi hz0 hz1 hz2 rfl (by decide) _ 0 [] rfl (World.ownsRow_nil _ _ _ _) ⟨sb,sf,none⟩ x.src.length sc (zcg x.src) rfl (zfo _) HNEWS.out (zlR _) HPOS.out H63.out HBY.out (Nat.le_of_eq HM.out) _ rfl ?_;intro g cap w3 ho3 hg3 hat hlt3;rw [Nat.zero_add]at ho3 ⊢;rw [List.nil_append]at ho3);have hg4:W.grownBy w3 none:=hg3;have HO3:=zzH ho3;have HG4:=zzH hg4;clear ho3 hg3 hg4 hat;exact zz112
 case rest=>
  obtain⟨HA0,HB0⟩:=hcut;rename_i v0 wc;clear i0' i1 i2 i3 i4 i5 i6 i7 i8 i9;obtain⟨a0,c0,rfl,-⟩:=HA0.out.cell;go_wp2_with fail;go_loopw [5,6] (fun v iv wr=> ∃(k:Nat) (ao:zzA) (c:Nat),k<=x.segs.length/\iv= .int .i64 k/\v= .slice ao (x.src++zW (x.segs.take k)).length c/\Hid (OwnA wr M v (x.src++zW (x.segs.take k)))/\Hid (Below M W wr)) (fun _ iv _=>x.segs.length-(intOf iv).toNat)
  case atStart=>exact⟨0,a0,c0,zzZ _,rfl,by rw [List.take_zero];show _=Value.slice a0 (x.src++ []).length c0;rw [List.append_nil],zzH (by rw [List.take_zero];show OwnA _ _ _ (x.src++ []);rw [List.append_nil];exact HA0.out),HB0⟩
  case round=>
   obtain⟨k,ao,c,hk,rfl,rfl,HO,HBk⟩:=hrel;clear HA0 HB0;rename World=>wr
   obtain⟨i0',i1,i2,i3,i4,i5,i6,i7,i8,i9⟩:=zC ((HBk.out.block _ (by rw [HM.out];exact zd HB.out)).trans HB.out);by_cases hlt:k<x.segs.length
   ·as_aux_lemma=>
    obtain⟨gb,gf,hgz,hgb,-⟩:=HSG.out.seg hlt;subst hgz;obtain⟨gb',gf',hgz,-,-,e1,e2,e3,e4,-,-⟩:=(HSG.out.mono (by rw [<-HM.out];exact HBk.out) fun _ _ h=>h).seg hlt;injection hgz with hgz;injection hgz with hgz1 hgz2;subst hgz1;subst hgz2;have hst:=zi1 hlt;have hll:=zer (x.segs.take k);rw [List.length_take]at hll;have hk0:(0:Int)<=(k:Int):=by omega
    have hk1:(k:Int)<(x.segs.length:Int):=by omega
    obtain⟨L,hL⟩: ∃L,L=x.src++zW (x.segs.take k):=⟨_,rfl⟩;have hLl:L.length<=3000:=by rw [hL,zzq12];omega
    have hL2:x.src++zW (x.segs.take (k+1))=L++(x.segs[k].val::(if x.segs[k].size.kind=0/\x.segs[k].size.n=0 then []else [x.segs[k].size])):=by rw [hst,hL,zzq20]
    rw [<-hL]at HO;rw [<-hL];have HL2:=zzH hL2;generalize x.segs[k]=sg at *;obtain⟨ty,⟨vk,vn⟩,⟨zk,zn⟩,li⟩:=sg;simp only at e1 e2 e3 e4;clear hst hll hL hL2;have hba:=(zzR wr.heap.size wr).alloc (zzL _) (.cells #[.int .i64 vk,.int .i64 vn] 42);have HOA:Hid (OwnA (wr.alloc (.cells #[.int .i64 vk,.int .i64 vn] 42)) M (.slice ao L.length c) L):=zzH (HO.out.below hba);have hNs:M<=(wr.alloc (.cells #[.int .i64 vk,.int .i64 vn] 42)).heap.size:=by have:=HM.out;have:=HBk.out.size;simp;omega
    have HNS:=zzH hNs;have HBA:=zzH hba;have h63:L.length+1<=maxLen:=by unfold maxLen;omega
    have hby:(L.length+1)*16<=140737488355328:=by omega
    have H63:=zzH h63;have HBY:=zzH hby;clear hba hNs h63 hby;go_upto_region 7 with(at_builtin;refine wpList_append_lies _ rfl (.tmp 20) (.tmp 27) 43 rfl M 42 i0 _ 2 16 Tryz.underlying43 hi hz0 hz1 hz2 rfl (by decide) (.slice ao L.length c) L.length (zcg L) rfl HOA.out ⟨wr.heap.size,0,none⟩ 1 1 [.int .i64 vk,.int .i64 vn] rfl rfl (World.news_of_block (zzF _ _)) (by simp [Value.oneCell']) (by decide) H63.out HBY.out HNS.out _ rfl ?_;intro g1 cap1 w3 ho3 hg3 hat3 hlt3);have hB3:Below M W w3:=(HBk.out.trans (HBA.out.mono (by have:=HBk.out.size;have:=HM.out;omega))).grown hg3 HNS.out (fun j e=>(HOA.out.lt j e).1);have HO3:Hid (OwnA w3 M (.slice (some ⟨g1,0,none⟩) (L.length+1) cap1) (L++ [⟨vk,vn⟩])):=zzH (OwnA.snoc (a:=⟨vk,vn⟩) ho3);have HB3:=zzH hB3;obtain⟨-,-,-,-,-,-,-,-,-,i9⟩:=zC ((hB3.block _ (by rw [HM.out];exact zd HB.out)).trans HB.out);have hgM:gb<M:=by rw [HM.out];assumption
    replace e3:w3.cell? ⟨gb,gf+k*6+3,none⟩=some (.int .i64 zk):=((hB3.cell (p:=⟨gb,gf+k*6+3,none⟩) hgM).trans (HBk.out.cell (p:=⟨gb,gf+k*6+3,none⟩) hgM).symm).trans e3
    replace e4:w3.cell? ⟨gb,gf+k*6+4,none⟩=some (.int .i64 zn):=((hB3.cell (p:=⟨gb,gf+k*6+4,none⟩) hgM).trans (HBk.out.cell (p:=⟨gb,gf+k*6+4,none⟩) hgM).symm).trans e4
    clear ho3 hg3 hat3 hB3 HOA HBA HNS H63 HBY e1 e2 hgM;by_cases hz:zk=0/\zn=0
    ·obtain⟨rfl,rfl⟩:=hz
     have HL3:Hid (x.src++zW (x.segs.take (k+1))=L++ [⟨vk,vn⟩]):=zzH (by rw [HL2.out,if_pos ⟨rfl,rfl⟩]);clear HL2;go_wp2_with fail;refine⟨⟨k+1,some ⟨g1,0,none⟩,cap1,hlt,by go_num,?_,zzH ?_,HB3⟩,by simp [intOf];omega⟩
     ·rw [HL3.out,zzq12];rfl
     ·rw [HL3.out];exact HO3.out
    ·have HL3:Hid (x.src++zW (x.segs.take (k+1))=(L++ [⟨vk,vn⟩])++ [⟨zk,zn⟩]):=zzH (by rw [HL2.out,if_neg hz];simp)
     clear HL2;obtain⟨L3,hL3⟩: ∃L3,L3=L++ [⟨vk,vn⟩]:=⟨_,rfl⟩;have hl3:L.length+1=L3.length:=by rw [hL3,zzq12];rfl
     rw [<-hL3]at HO3 HL3;rw [hl3]at HO3 ⊢;have hLl3:L3.length<=3001:=by omega
     have hbb:=(zzR w3.heap.size w3).alloc (zzL _) (.cells #[.int .i64 zk,.int .i64 zn] 42);have HOB:Hid (OwnA (w3.alloc (.cells #[.int .i64 zk,.int .i64 zn] 42)) M (.slice (some ⟨g1,0,none⟩) L3.length cap1) L3):=zzH (HO3.out.below hbb);have hNs:M<=(w3.alloc (.cells #[.int .i64 zk,.int .i64 zn] 42)).heap.size:=by have:=HM.out;have:=HB3.out.size;simp;omega
     have HNT:=zzH hNs;have HBB3:=zzH hbb;have h63:L3.length+1<=maxLen:=by unfold maxLen;omega
     have hby:(L3.length+1)*16<=140737488355328:=by omega
     have H63:=zzH h63;have HBY:=zzH hby;clear hbb hNs h63 hby hl3 hL3
     have ht:((zk==0)=true/\(zn==0)=false)\/(zk==0)=false:=by
      by_cases d:zk=0
      ·exact .inl ⟨zzl.2 d,zzB.2 fun e=>hz ⟨d,e⟩⟩
      ·exact .inr (zzB.2 d)
     rcases ht with⟨t1,t2⟩|t1
     all_goals
      clear hz;go_wp2_with (at_builtin;refine wpList_append_lies _ rfl (.tmp 37) (.tmp 44) 43 rfl M 42 i0 _ 2 16 Tryz.underlying43 hi hz0 hz1 hz2 rfl (by decide) (.slice (some ⟨g1,0,none⟩) L3.length cap1) L3.length (zcg L3) rfl HOB.out ⟨w3.heap.size,0,none⟩ 1 1 [.int .i64 zk,.int .i64 zn] rfl rfl (World.news_of_block (zzF _ _)) (by simp [Value.oneCell']) (by decide) H63.out HBY.out HNT.out _ rfl ?_;intro g2 cap2 w4 ho4 hg4 hat4 hlt4);refine⟨⟨k+1,some ⟨g2,0,none⟩,cap2,hlt,by go_num,?_,zzH ?_,zzH ?_⟩,by simp [intOf];omega⟩
      ·rw [HL3.out,zzq12];rfl
      ·rw [HL3.out];exact OwnA.snoc (a:=⟨zk,zn⟩) ho4
      ·exact(HB3.out.trans (HBB3.out.mono (by have:=HB3.out.size;have:=HM.out;omega))).grown hg4 HNT.out (fun j e=>(HOB.out.lt j e).1)
   ·obtain rfl:k=x.segs.length:=by omega
    rw [List.take_length]at HO ⊢;go_upto_block 2 with fail;obtain⟨n,hn⟩: ∃n:Nat,zbS u x=(n:Int):=⟨(zbS u x).toNat,(Int.toNat_of_nonneg HOK.out.num.1).symm⟩;have hn1:n<=1000:=by have:=HOK.out.num.2;omega
    have HNA:=zzH hn;have hup:=HUP.out.below (by rw [<-HM.out];exact HBk.out);obtain⟨-,-,-,b3,-,-⟩:=zV ((HBk.out.block _ (by rw [HM.out];exact zd HA.out)).trans HA.out);obtain⟨L,hL⟩: ∃L,L=x.src++zW x.segs:=⟨_,rfl⟩;have hLl:L.length<=3000:=by have:=zer x.segs;rw [hL,zzq12];omega
    rw [<-hL]at HO ⊢;have HLL:=zzH hL;have HUP2:=zzH hup;clear hL hn hup i1 i2 i3 i4 i6 i7 i8 i9;go_cut [7] (fun v wx=>v= .int .i64 (n:Int)/\wr=wx)
    case first=>
     have HR:Hid ((n:Int)=if x.op=15\/x.op=18\/x.op=19\/x.op=20\/x.op=21 then x.n else if x.op=16\/x.op=17 then((u.funcs[x.n.toNat]?).map RFunc.arity).getD 0 else if x.op=26 then 1 else 0):=zzH HNA.out.symm
     have hfn:=HOK.out.args;clear HNA;generalize x.op=op at *;by_cases h1:op=15\/op=18\/op=19\/op=20\/op=21
     ·have HR2:Hid ((n:Int)=x.n):=zzH (by rw [HR.out,if_pos h1])
      clear HR hfn b3;rcases h1 with rfl|rfl|rfl|rfl|rfl
      all_goals
       go_wp2_with fail;go_meet;exact⟨by rw [HR2.out],rfl⟩
     ·have t1:(op==15)=false:=by rw [zzq1];omega
      have t2:(op==18)=false:=by rw [zzq1];omega
      have t3:(op==19)=false:=by rw [zzq1];omega
      have t4:(op==20)=false:=by rw [zzq1];omega
      have t5:(op==21)=false:=by rw [zzq1];omega
      by_cases h2:op=16\/op=17
      ·obtain⟨g1,g2⟩:=hfn h2
       have hm: ∃m:Nat,x.n=(m:Int)/\m<u.funcs.length:=⟨x.n.toNat,by omega,by omega⟩;obtain⟨m,hm,hml⟩:=hm;have HR2:Hid ((n:Int)=(u.funcs[m]).arity):=zzH (by rw [HR.out,if_neg h1,if_pos h2,hm,zzq11,zzq3 hml];rfl);obtain⟨fb,off,rfl,hfb,q0,q1,q2,q3,s1,s2,s3⟩:=HUP2.out.funcs.func hml;rw [hm]at i5;clear HR hfn h1 q0 q2 q3 s1 s2 s3 hm g1 g2;generalize u.funcs[m]=fn at *;have hI0:(0:Int)<=(m:Int):=by omega
       have hI1:(m:Int)<(u.funcs.length:Int):=by omega
       rcases h2 with rfl|rfl
       all_goals
        go_wp2_with fail;go_meet;exact⟨by rw [HR2.out],rfl⟩
      ·have t6:(op==16)=false:=by rw [zzq1];omega
       have t7:(op==17)=false:=by rw [zzq1];omega
       by_cases h3:op=26
       ·have t8:(op==26)=true:=zzl.2 h3
        have HR2:Hid ((n:Int)=1):=zzH (by rw [HR.out,if_neg h1,if_neg h2,if_pos h3]);clear HR h1 h2 h3 hfn;go_wp2_with fail;go_meet;exact⟨by rw [HR2.out],rfl⟩
       ·have t8:(op==26)=false:=zzB.2 h3
        have HR2:Hid ((n:Int)=0):=zzH (by rw [HR.out,if_neg h1,if_neg h2,if_neg h3]);clear HR h1 h2 h3 hfn;go_wp2_with fail;go_meet;exact⟨by rw [HR2.out],rfl⟩
    case rest=>
     obtain⟨rfl,rfl⟩:=hcut;clear i0' i5 b3;go_wp2_with fail;go_loopw [5,8] (fun v iv wx=> ∃(k:Nat) (ao:zzA) (c:Nat),k<=n/\iv= .int .i64 k/\v= .slice ao (L.length+k) c/\Hid (OwnA wx M v (L++zbJ k))/\Hid (Below M W wx)) (fun _ iv _=>n-(intOf iv).toNat)
     case atStart=>exact⟨0,ao,c,zzZ _,rfl,rfl,zzH (by show OwnA _ _ _ (L++ []);rw [List.append_nil];exact HO.out),HBk⟩
     case round=>
      clear HO HBk hlt;obtain⟨k,ao,c,hk,rfl,rfl,HO,HBk⟩:=hrel;rename World=>wr
      by_cases hlt:k<n
      ·as_aux_lemma=>
       have hba:=(zzR wr.heap.size wr).alloc (zzL _) (.cells #[.int .i64 1,.int .i64 (k:Int)] 42);have hll:(L++zbJ k).length=L.length+k:=by rw [zzq12];unfold zbJ;simp
       have hOA:OwnA (wr.alloc (.cells #[.int .i64 1,.int .i64 (k:Int)] 42)) M (.slice ao (L.length+k) c) (L++zbJ k):=HO.out.below hba;have hOB:=hOA;unfold OwnA at hOB;rw [hll]at hOB;refine zzK3 hOB hOA hll fun HOA HOC HLQ=>?_;have hNs:M<=(wr.alloc (.cells #[.int .i64 1,.int .i64 (k:Int)] 42)).heap.size:=by have:=HM.out;have:=HBk.out.size;simp;omega
       have HNS:=zzH hNs;have HBA:=zzH hba;have h63:L.length+k+1<=maxLen:=by unfold maxLen;omega
       have hby:(L.length+k+1)*16<=140737488355328:=by omega
       have H63:=zzH h63;have HBY:=zzH hby;clear hba hNs h63 hby hOA hOB hll;go_wp2_with (at_builtin;refine wpList_append_lies _ rfl (.tmp 73) (.tmp 76) 43 rfl M 42 i0 _ 2 16 Tryz.underlying43 hi hz0 hz1 hz2 rfl (by decide) (.slice ao (L.length+k) c) (L.length+k) (zcg (L++zbJ k)) rfl HOA.out ⟨wr.heap.size,0,none⟩ 1 1 [.int .i64 1,.int .i64 (k:Int)] rfl rfl (World.news_of_block (zzF _ _)) (by simp [Value.oneCell']) (by decide) H63.out HBY.out HNS.out _ rfl ?_;intro g2 cap2 w4 ho4 hg4 hat4 hlt4);refine⟨⟨k+1,some ⟨g2,0,none⟩,cap2,hlt,by go_num,rfl,zzH ?_,zzH ?_⟩,by simp [intOf];omega⟩
       ·rw [zlJ,<-zzq20]
        refine OwnA.snoc (a:=⟨1,(k:Int)⟩) ?_;rw [HLQ.out];exact ho4
       ·exact(HBk.out.trans (HBA.out.mono (by have:=HBk.out.size;have:=HM.out;omega))).grown hg4 HNS.out (fun j e=>(HOC.out.lt j e).1)
      ·obtain rfl:k=n:=by omega
       as_aux_lemma=>
       go_wp2;go_ret;refine⟨⟨_,rfl,?_⟩,by rw [HN.out];exact HBB.out.trans (HBk.out.mono (by rw [HM.out];exact HNW.out))⟩;have e:zdk u x=L++zbJ k:=by unfold zdk;rw [HNA.out,zzq11,HLL.out,zzq20]
       rw [e];have h:=HO.out;exact⟨h.1,h.2.imp id fun⟨g,cap,cur,a,b,c,d⟩=>⟨g,cap,cur,a,zzY (by rw [HM.out,HN.out];exact HNW.out) b,c,d⟩⟩
def StQ (s:VSt) (w:World) (e:Ending) (w':World):Prop:=
 (∃xo xc yo yc to' tc,e= .returned (.agg (zj s xo xc yo yc to' tc))/\StLs w' s xo xc yo yc to' tc)/\Below w.heap.size w w'
theorem KeepI.setCell {w:World} {g i:Nat} {cs:Array Value} {T:TypeId} {fr:Nat × Nat} (h:w.heap[g]?=some (.cells cs T fr)) (hT:T≠3) (v:Value):KeepI w (w.setCell ⟨g,i,none⟩ v):=
 ⟨by simp [World.setCell],fun k c f hk=>zcR hk h hT⟩
theorem OwnI.base {w:World} {B:Nat} {v:Value} {l:List Int} (h:OwnI w B v l): ∀j,v.ownBlock=some j->B<=j:=fun j e=>(h.lt j e).1
theorem zgV (s:VSt) (xo yo to':zzA) (xc yc tc:Nat) (a:RArg) (tt:Int) (w:World) (hs:StLs w s xo xc yo yc to' tc) (ls:VLen s) (h1:a.kind=1->0<=a.n/\a.n<=255) (h2:a.kind=2->0<=a.n/\a.n<s.y.length):
  Calls Tryz.prog 118 #[.agg (zzs s xo xc yo yc to' tc),.agg #[.int .i64 a.kind,.int .i64 a.n],.int .i64 tt] w (StQ (zb6 s a tt) w):=by
 unfold zzs;obtain⟨ak,an⟩:=a;simp only at h1 h2;obtain⟨gA,gB,gC,hb⟩:=zbR w (.cells #[.int .i64 s.frame,.slice xo s.x.length xc,.slice yo s.y.length yc,.slice to' s.tries.length tc,.bool s.mt,.int .i64 s.recv,.int .i64 s.frm] 40) (.cells #[.int .i64 ak,.int .i64 an] 42) (.cells zSt 40);refine zzK5 gA gB gC hb (hs.below hb) fun HA HB HR HBB HS=>?_;have lx:=ls.x;have ly:=ls.y;have HP:Hid (zb6 s ⟨ak,an⟩ tt=if ak=1 then{s with x:=zA (zc1 s.x an.toNat tt)}else if ak=2 then{s with y:=s.y.set an.toNat tt}else s):=zzH rfl;obtain⟨Q,hQ⟩: ∃Q,Q=StQ (zb6 s ⟨ak,an⟩ tt) w:=⟨_,rfl⟩;rw [<-hQ];have HQ:=zzH hQ;obtain⟨i0,hi,hz0,hz1,hz2⟩:=info_parts zdo;clear gA gB gC hb hs ls hQ;go_in;go_upto_region 2 with fail;generalize((w.alloc _).alloc _).alloc _=W at *;obtain⟨c0,c1,c2,c3,c4,c5,c6⟩:=zN HA.out;have b0:=zw HB.out (k:=0) (by simp);have b1:=zw HB.out (k:=1) (by simp);simp only [zzX4]at b0 b1;obtain⟨M,hM⟩: ∃M,M=W.heap.size:=⟨_,rfl⟩;have hAM:w.heap.size<M:=by rw [hM];exact zd HA.out
 have hBM:w.heap.size+1<M:=by rw [hM];exact zd HB.out
 have hRM:w.heap.size+1+1<M:=by rw [hM];exact zd HR.out
 have HM:=zzH hM;clear hM;by_cases k2:ak=2
 ·subst k2
  obtain⟨h2a,h2b⟩:=h2 rfl;clear h1 h2;obtain⟨n,rfl⟩:=zzJ h2a;have E:Hid (zb6 s ⟨2,n⟩ tt=⟨s.frame,s.x,s.y.set n tt,s.tries,s.mt,s.recv,s.frm⟩):=zzH (by rw [HP.out,if_neg (by decide),if_pos rfl];rfl);have hn:n<s.y.length:=by omega
  have hpos:0<s.y.length:=by omega
  obtain⟨yb,yf,rfl,-,-⟩:=HS.out.y.cell hn;have hnw:=HS.out.y.news s.y.length (zzL _);rw [List.take_length]at hnw;have hlen:(s.y.map (Value.int .i64)).length=s.y.length*1:=by simp
  have h1c: ∀u∈s.y.map (Value.int .i64),u.oneCell'=true:=fun u hu=>by obtain⟨x,_,rfl⟩:=List.mem_map.1 hu;rfl
  have h63:0+s.y.length<=maxLen:=by unfold maxLen;omega
  have hby:(0+s.y.length)*8<=140737488355328:=by omega
  refine zzK7 hnw hlen h1c h63 hby hpos hn fun HNW HLEN H1C H63 HBY HPOS HNL=>?_;clear hnw hlen h1c h63 hby hpos HP;go_upto_region 4 with(at_builtin;refine wpList_append_lies _ rfl (.tmp 11) (.tmp 13) 38 rfl M 3 i0 _ 1 8 Tryz.underlying38 hi hz0 hz1 hz2 rfl (by decide) _ 0 [] rfl (World.ownsRow_nil _ _ _ _) ⟨yb,yf,none⟩ s.y.length yc (s.y.map (Value.int .i64)) rfl HLEN.out HNW.out H1C.out HPOS.out H63.out HBY.out (Nat.le_of_eq HM.out) _ rfl ?_;intro g cap w3 ho3 hg3 hat3 hlt3;rw [Nat.zero_add]at ho3 ⊢;rw [List.nil_append]at ho3);have hg4:W.grownBy w3 none:=hg3;have hB3:Below M W w3:=⟨hg4.os,hg4.tape,hg4.output,hg4.size,fun j hj=>hg4.block j (by rw [<-HM.out];exact hj) (by simp)⟩
  obtain⟨cur,hrow,hcs,hMg⟩: ∃cur:Array Value,w3.heap[g]?=some (.cells cur 3 (0,0))/\n<cur.size/\M<=g:=by
   rcases ho3.2 with⟨h,-⟩|⟨g',cap',cur,h,hB,hgg,e1,e2,e3,e4⟩
   ·cases h
   ·injection h with ha hb hc
    injection ha with ha;injection ha with ha;subst ha;exact⟨cur,hgg,by omega,hB⟩
  have hc:=zw hrow hcs;have hf:=zzq5 _ _ n _ _ hrow
  replace b1:=(hB3.cell (p:=⟨w.heap.size+1,1,none⟩) hBM).trans b1
  replace b0:=(hB3.cell (p:=⟨w.heap.size+1,0,none⟩) hBM).trans b0
  have HO3:=zzH ho3;have HB3:=zzH hB3;clear ho3 hg3 hg4 hat3 hB3 c0 c1 c2 c3 c4 c5 c6 hrow;have hI0:(0:Int)<=(n:Int):=by omega
  have hI1:(n:Int)<(s.y.length:Int):=by omega
  go_upto_region 5 with fail;obtain⟨hst,hgr⟩:=HO3.out.stored n (.int .i64 tt)
  have hown:OwnI (w3.setCell ⟨g,n,none⟩ (.int .i64 tt)) M (.slice (some ⟨g,0,none⟩) s.y.length cap) (s.y.set n tt):=by
   unfold OwnI;rw [List.length_set,List.map_set];exact hst
  have hA4:(w3.setCell ⟨g,n,none⟩ (.int .i64 tt)).heap[w.heap.size]?=_:=(zzq6 _ _ _ _ (by show w.heap.size≠g;omega)).trans ((HB3.out.block _ hAM).trans HA.out)
  have hB4:Below M W (w3.setCell ⟨g,n,none⟩ (.int .i64 tt)):=HB3.out.setCell (p:=⟨g,n,none⟩) hMg _;have b4:(w3.setCell ⟨g,n,none⟩ (.int .i64 tt)).cell? ⟨w.heap.size+1,0,none⟩=some (.int .i64 2):=(World.cell?_setCell_far _ _ _ _ (by show g≠w.heap.size+1;omega)).trans b0;have x2:=zzq0 _ _ 2 _ _ _ hA4;have z2:=zzq5 _ _ 2 _ _ hA4;refine zzK3 hA4 hB4 hown fun HA4 HB4 HOW=>?_;clear hst hgr hown hA4 hB4 hc hf HO3 HB3 b0 b1;generalize w3.setCell _ _=w4 at *;go_upto_region 6 with fail;have HRA:=zzH (zzS w4 w.heap.size 2 _ _ (.slice (some ⟨g,0,none⟩) s.y.length cap) HA4.out);have HRR:Hid ((w4.setCell ⟨w.heap.size,2,none⟩ (.slice (some ⟨g,0,none⟩) s.y.length cap)).heap[w.heap.size+1+1]?=some (.cells zSt 40 (0,0))):=zzH ((zzq6 w4 ⟨w.heap.size,2,none⟩ _ _ (by show w.heap.size+1+1≠w.heap.size;omega)).trans ((HB4.out.block _ hRM).trans HR.out))
  have HBW:=zzH ((HBB.out.trans (HB4.out.mono (by omega))).setCell (p:=⟨w.heap.size,2,none⟩) (zzL _) (.slice (some ⟨g,0,none⟩) s.y.length cap));have HKA:Hid (KeepI w4 (w4.setCell ⟨w.heap.size,2,none⟩ (.slice (some ⟨g,0,none⟩) s.y.length cap))):=zzH (KeepI.setCell HA4.out (by decide) _);have b5:(w4.setCell ⟨w.heap.size,2,none⟩ (.slice (some ⟨g,0,none⟩) s.y.length cap)).cell? ⟨w.heap.size+1,0,none⟩=some (.int .i64 2):=(World.cell?_setCell_far _ _ _ _ (by show w.heap.size≠w.heap.size+1;omega)).trans b4;clear x2 z2 b4;generalize w4.setCell _ _=w5 at *;go_upto_region 12 with fail;refine wp_region_list ?_;refine wpList_load_row rfl 40 (.tmp 3) rfl w.heap.size rfl 40 _ _ _ HRA.out Tryz.underlying40 rfl (by kernel_rfl) ?_;refine zzm rfl 40 (.tmp 6) (.tmp 45) rfl (w.heap.size+1+1) #[.int .i64 s.frame,.slice xo s.x.length xc,.slice (some ⟨g,0,none⟩) s.y.length cap,.slice to' s.tries.length tc,.bool s.mt,.int .i64 s.recv,.int .i64 s.frm] rfl rfl 40 _ HRR.out (by kernel_rfl) rfl (by simp [Value.oneCell']) ?_;have HRZ:=zzH (setRow_heap w5 (w.heap.size+1+1) _ #[.int .i64 s.frame,.slice xo s.x.length xc,.slice (some ⟨g,0,none⟩) s.y.length cap,.slice to' s.tries.length tc,.bool s.mt,.int .i64 s.recv,.int .i64 s.frm] _ _ HRR.out);have HBZ:=zzH (below_setRow HBW.out (g:=w.heap.size+1+1) (by omega) #[.int .i64 s.frame,.slice xo s.x.length xc,.slice (some ⟨g,0,none⟩) s.y.length cap,.slice to' s.tries.length tc,.bool s.mt,.int .i64 s.recv,.int .i64 s.frm]);have HKZ:Hid (KeepI w5 (World.setRow w5 (w.heap.size+1+1) #[.int .i64 s.frame,.slice xo s.x.length xc,.slice (some ⟨g,0,none⟩) s.y.length cap,.slice to' s.tries.length tc,.bool s.mt,.int .i64 s.recv,.int .i64 s.frm])):=zzH (KeepI.setRow HRR.out (by decide) _);refine wpList_nil ?_;generalize World.setRow w5 _ _=WZ at *;go_wp2_with fail;refine zzj (results_cell_row rfl _ _ (w.heap.size+1+1) _ _ _ _ rfl HRZ.out Tryz.underlying40 rfl (by kernel_rfl)) rfl ?_;rw [HQ.out,E.out];obtain⟨ai,ci,hi1,hi2,hi3⟩:=HOW.out.ints;rw [List.length_set]at hi1 hi3;injection hi1 with ha hb hc';subst ha hc';have hkI:KeepI W WZ:=((KeepI.below (by rw [<-HM.out];exact HB4.out)).trans HKA.out).trans HKZ.out;exact⟨⟨xo,xc,some ⟨g,0,none⟩,cap,to',tc,by unfold zj;simp only [List.length_set],⟨HS.out.x.keepI hkI,(hi2.keepI HKA.out).keepI HKZ.out,HS.out.t.keepI hkI,HS.out.xl,by show(s.y.set n tt).length<=cap;rw [List.length_set];exact hi3,HS.out.tl⟩⟩,HBZ.out⟩
 ·by_cases k1:ak=1
  ·subst k1
   obtain⟨h1a,h1b⟩:=h1 rfl;clear h1 h2 k2;obtain⟨n,rfl⟩:=zzJ h1a;have E:Hid (zb6 s ⟨1,n⟩ tt=⟨s.frame,zA (zc1 s.x n tt),s.y,s.tries,s.mt,s.recv,s.frm⟩):=zzH (by rw [HP.out,if_pos rfl];rfl);have hn:n<=255:=by omega
   clear HP h1a h1b;go_upto_region 7 with fail;go_cut [7] (fun v wx=>Hid (OwnI wx M v s.x)/\Hid (Below M W wx))
   case first=>
    by_cases h0:s.x.length=0
    ·have hnil:s.x= []:=zzQ h0
     have HNIL:=zzH hnil;rw [h0]at c1;clear h0 hnil;go_wp2_with (at_builtin;refine zdO rfl (.tmp 25) (.tmp 27) 38 3 rfl i0 Tryz.underlying38 hi rfl xo xc rfl ?_);exact zz113
    ·have hpos:0<s.x.length:=by omega
     obtain⟨yb,yf,rfl,-,-⟩:=HS.out.x.cell hpos;have hnw:=HS.out.x.news s.x.length (zzL _);rw [List.take_length]at hnw;have hlen:(s.x.map (Value.int .i64)).length=s.x.length*1:=by simp
     have h1c: ∀u∈s.x.map (Value.int .i64),u.oneCell'=true:=fun u hu=>by obtain⟨x,_,rfl⟩:=List.mem_map.1 hu;rfl
     have h63:0+s.x.length<=maxLen:=by unfold maxLen;omega
     have hby:(0+s.x.length)*8<=140737488355328:=by omega
     refine zzK6 hnw hlen h1c h63 hby hpos fun HNW HLEN H1C H63 HBY HPOS=>?_;clear hnw hlen h1c h63 hby hpos h0;go_wp2_with (at_builtin;refine wpList_append_lies _ rfl (.tmp 25) (.tmp 27) 38 rfl M 3 i0 _ 1 8 Tryz.underlying38 hi hz0 hz1 hz2 rfl (by decide) _ 0 [] rfl (World.ownsRow_nil _ _ _ _) ⟨yb,yf,none⟩ s.x.length xc (s.x.map (Value.int .i64)) rfl HLEN.out HNW.out H1C.out HPOS.out H63.out HBY.out (Nat.le_of_eq HM.out) _ rfl ?_;intro g cap w3 ho3 hg3 hat3 hlt3;rw [Nat.zero_add]at ho3 ⊢;rw [List.nil_append]at ho3);have hg4:W.grownBy w3 none:=hg3;have HO3:=zzH ho3;have HG4:=zzH hg4;clear ho3 hg3 hg4 hat3;exact zz112
   case rest=>
    obtain⟨HO0,HB0⟩:=hcut;rename_i v0 wc;obtain⟨a0,k0,rfl,-,-⟩:=HO0.out.ints;clear c0 c1 c2 c3 c4 c5 c6;go_wp2_with fail;go_loopw [7] (fun v wr=> ∃(j:Nat) (ao:zzA) (c:Nat),s.x.length+j<=s.x.length+n+1/\(0<j->s.x.length+j<=n+1)/\v= .slice ao (s.x.length+j) c/\Hid (OwnI wr M (.slice ao (s.x.length+j) c) (s.x++List.replicate j 0))/\Hid (Below M W wr)) (fun v _=>match v with|.slice _ k _=>n+1-k|_=>0)
    case atStart=>exact⟨0,a0,k0,by omega,by omega,rfl,zzH (by rw [List.replicate_zero,List.append_nil];exact HO0.out),HB0⟩
    case round=>
     clear HO0 HB0;obtain⟨j,ao,c,hj,hj2,rfl,HK,HF⟩:=hrel;rename World=>wr
     replace b1:wr.cell? ⟨w.heap.size+1,1,none⟩=some (.int .i64 (n:Int)):=(HF.out.cell (p:=⟨w.heap.size+1,1,none⟩) hBM).trans b1
     by_cases hlt:s.x.length+j<=n
     ·as_aux_lemma=>
      have HOA:Hid (OwnI (wr.alloc (.cells #[.int .i64 0] 3)) M (.slice ao (s.x.length+j) c) (s.x++List.replicate j 0)):=zzH (HK.out.alloc _);have hlen:(s.x++List.replicate j (0:Int)).length=s.x.length+j:=by simp
      have hNs:M<=wr.heap.size+1:=by have:=HM.out;have:=HF.out.size;omega
      go_wp2_with (at_builtin;refine wpList_append_own _ rfl (.tmp 34) (.tmp 35) 38 rfl M 3 i0 (.int .i64 0) 1 8 Tryz.underlying38 hi hz0 hz1 hz2 rfl (by decide) _ _ _ rfl HOA.out ⟨wr.heap.size,0,none⟩ 1 1 [.int .i64 0] rfl rfl (zd5 _ _ _) (by simp [Value.oneCell']) (by rw [hlen];unfold maxLen;omega) (by rw [hlen];omega) (by simpa using hNs) ?_;intro v' w2 ho2 hg2 _)
      have hown:OwnI w2 M v' (s.x++List.replicate (j+1) 0):=by
       have e1:(s.x++List.replicate (j+1) (0:Int)).length=(s.x++List.replicate j (0:Int)).length+1:=by simp;omega
       have e2:(s.x++List.replicate (j+1) (0:Int)).map (Value.int .i64)=(s.x++List.replicate j (0:Int)).map (Value.int .i64)++ [.int .i64 0]:=by rw [List.replicate_succ'];simp
       unfold OwnI;rw [e1,e2];exact ho2
      have hbl:Below M W w2:=((HF.out.alloc (by have:=HM.out;have:=HF.out.size;omega) _).grown hg2 (by simpa using hNs) fun k e=>(HOA.out.lt k e).1);exact zz73
     ·as_aux_lemma=>
      have hS:s.x++List.replicate j (0:Int)=s.x++List.replicate (n+1-s.x.length) 0:=by
       exact zz75
      obtain⟨g,cap,hg⟩: ∃g cap,(Value.slice ao (s.x.length+j) c)= .slice (some ⟨g,0,none⟩) (s.x.length+j) cap:=by
       exact zz74
      injection hg with hg1 hg2 hg3;subst hg1 hg3
      obtain⟨cur,hrow,hcs,hNg⟩: ∃cur:Array Value,wr.heap[g]?=some (.cells cur 3 (0,0))/\n<cur.size/\M<=g:=by
       exact zz72
      have hc:=zw hrow hcs;have hf:=zzq5 _ _ n _ _ hrow;have hk:=HK.out;unfold OwnI at hk;have e3:(s.x++List.replicate j (0:Int)).length=s.x.length+j:=by simp
      rw [e3]at hk;obtain⟨hst,hgr⟩:=hk.stored n (.int .i64 tt)
      have hown:OwnI (wr.setCell ⟨g,n,none⟩ (.int .i64 tt)) M (.slice (some ⟨g,0,none⟩) (s.x.length+j) c) (zc1 s.x n tt):=by
       unfold OwnI zc1;rw [<-hS,List.length_set,e3,List.map_set];exact hst
      have hlen:(zc1 s.x n tt).length=s.x.length+j:=by unfold zc1;rw [<-hS,List.length_set,e3]
      obtain⟨ai,ci,hi1,hi2,hi3⟩:=hown.ints;rw [hlen]at hi1 hi3;injection hi1 with ha hb hc';subst ha hc';have htr:=zgf (zc1 s.x n tt) _ c _ hi2 (by rw [hlen];omega) (by rw [hlen];exact hi3);rw [hlen]at htr;have hB4:Below M W (wr.setCell ⟨g,n,none⟩ (.int .i64 tt)):=HF.out.setCell (p:=⟨g,n,none⟩) hNg _;have hA4:(wr.setCell ⟨g,n,none⟩ (.int .i64 tt)).heap[w.heap.size]?=_:=(hB4.block _ hAM).trans HA.out
      refine zzK3 htr hB4 hA4 fun HTR HB4 HA4=>?_;have hI0:(0:Int)<=(n:Int):=by omega
      have hI1:(n:Int)<((s.x.length+j:Nat):Int):=by omega
      clear htr hst hgr hk hown hi2 hi3 hlen hS hB4 hA4 hrow HK HF;go_upto_region 11 with fail;generalize wr.setCell ⟨g,n,none⟩ (.int .i64 tt)=w4 at *;go_wp2_with fail;refine HTR.out.mono ?_;rintro e w6 ⟨⟨v6,rfl,ho6⟩,hb6⟩;obtain⟨vo,vc,rfl,hi6,hc6⟩:=ho6.ints;have hr6:=(hb6.block _ (zd HA4.out)).trans HA4.out;have x1:=zzq0 _ _ 1 _ _ _ hr6;have x2:=zzq5 _ _ 1 _ _ hr6;have hM4:M<=w4.heap.size:=by have:=HM.out;have:=HB4.out.size;omega
      refine zzK4 hr6 hi6 hc6 (HB4.out.trans (hb6.mono hM4)) fun HR6 HI6 HC6 HB6=>?_;obtain⟨TX,hTX⟩: ∃TX,TX=(zA (zc1 s.x n tt)).length:=⟨_,rfl⟩;rw [<-hTX]at hc6 ⊢;have HTX:=zzH hTX;clear ho6 hb6 hr6 hi6 hc6 hTX HTR hM4 b1 hc hf;go_upto_region 12 with fail;have HRA:=zzH (zzS w6 w.heap.size 1 _ _ (.slice vo TX vc) HR6.out);have HRR:Hid ((w6.setCell ⟨w.heap.size,1,none⟩ (.slice vo TX vc)).heap[w.heap.size+1+1]?=some (.cells zSt 40 (0,0))):=zzH ((zzq6 w6 ⟨w.heap.size,1,none⟩ _ _ (by show w.heap.size+1+1≠w.heap.size;omega)).trans ((HB6.out.block _ hRM).trans HR.out))
      have HBW:=zzH ((HBB.out.trans (HB6.out.mono (by omega))).setCell (p:=⟨w.heap.size,1,none⟩) (zzL _) (.slice vo TX vc));have HKA:Hid (KeepI w6 (w6.setCell ⟨w.heap.size,1,none⟩ (.slice vo TX vc))):=zzH (KeepI.setCell HR6.out (by decide) _);clear x1 x2;generalize w6.setCell _ _=w5 at *;refine wp_region_list ?_;refine wpList_load_row rfl 40 (.tmp 3) rfl w.heap.size rfl 40 _ _ _ HRA.out Tryz.underlying40 rfl (by kernel_rfl) ?_;refine zzm rfl 40 (.tmp 6) (.tmp 45) rfl (w.heap.size+1+1) #[.int .i64 s.frame,.slice vo TX vc,.slice yo s.y.length yc,.slice to' s.tries.length tc,.bool s.mt,.int .i64 s.recv,.int .i64 s.frm] rfl rfl 40 _ HRR.out (by kernel_rfl) rfl (by simp [Value.oneCell']) ?_;have HRZ:=zzH (setRow_heap w5 (w.heap.size+1+1) _ #[.int .i64 s.frame,.slice vo TX vc,.slice yo s.y.length yc,.slice to' s.tries.length tc,.bool s.mt,.int .i64 s.recv,.int .i64 s.frm] _ _ HRR.out);have HBZ:=zzH (below_setRow HBW.out (g:=w.heap.size+1+1) (by omega) #[.int .i64 s.frame,.slice vo TX vc,.slice yo s.y.length yc,.slice to' s.tries.length tc,.bool s.mt,.int .i64 s.recv,.int .i64 s.frm]);have HKZ:Hid (KeepI w5 (World.setRow w5 (w.heap.size+1+1) #[.int .i64 s.frame,.slice vo TX vc,.slice yo s.y.length yc,.slice to' s.tries.length tc,.bool s.mt,.int .i64 s.recv,.int .i64 s.frm])):=zzH (KeepI.setRow HRR.out (by decide) _);refine wpList_nil ?_;generalize World.setRow w5 _ _=WZ at *;go_wp2_with fail;refine zzj (results_cell_row rfl _ _ (w.heap.size+1+1) _ _ _ _ rfl HRZ.out Tryz.underlying40 rfl (by kernel_rfl)) rfl ?_;rw [HQ.out,E.out];have hkI:KeepI W WZ:=((KeepI.below (by rw [<-HM.out];exact HB6.out)).trans HKA.out).trans HKZ.out;exact⟨⟨vo,vc,yo,yc,to',tc,by rw [HTX.out];rfl,⟨(HI6.out.keepI HKA.out).keepI HKZ.out,HS.out.y.keepI hkI,HS.out.t.keepI hkI,HC6.out,HS.out.yl,HS.out.tl⟩⟩,HBZ.out⟩
  ·have E:Hid (zb6 s ⟨ak,an⟩ tt=s):=zzH (by rw [HP.out,if_neg k1,if_neg k2])
   have t1:(ak==1)=false:=zzB.2 k1;have t2:(ak==2)=false:=zzB.2 k2;have HRA:=HA;have HRR:=HR;have HBW:=HBB;clear HP h1 h2 k1 k2;go_upto_region 12 with fail;refine wp_region_list ?_;refine wpList_load_row rfl 40 (.tmp 3) rfl w.heap.size rfl 40 _ _ _ HRA.out Tryz.underlying40 rfl (by kernel_rfl) ?_;refine zzm rfl 40 (.tmp 6) (.tmp 45) rfl (w.heap.size+1+1) #[.int .i64 s.frame,.slice xo s.x.length xc,.slice yo s.y.length yc,.slice to' s.tries.length tc,.bool s.mt,.int .i64 s.recv,.int .i64 s.frm] rfl rfl 40 _ HRR.out (by kernel_rfl) rfl (by simp [Value.oneCell']) ?_;have HRZ:=zzH (setRow_heap W (w.heap.size+1+1) _ #[.int .i64 s.frame,.slice xo s.x.length xc,.slice yo s.y.length yc,.slice to' s.tries.length tc,.bool s.mt,.int .i64 s.recv,.int .i64 s.frm] _ _ HRR.out);have HBZ:=zzH (below_setRow HBW.out (g:=w.heap.size+1+1) (by omega) #[.int .i64 s.frame,.slice xo s.x.length xc,.slice yo s.y.length yc,.slice to' s.tries.length tc,.bool s.mt,.int .i64 s.recv,.int .i64 s.frm]);have HKZ:Hid (KeepI W (World.setRow W (w.heap.size+1+1) #[.int .i64 s.frame,.slice xo s.x.length xc,.slice yo s.y.length yc,.slice to' s.tries.length tc,.bool s.mt,.int .i64 s.recv,.int .i64 s.frm])):=zzH (KeepI.setRow HRR.out (by decide) _);refine wpList_nil ?_;generalize World.setRow W _ _=WZ at *;go_wp2_with fail;refine zzj (results_cell_row rfl _ _ (w.heap.size+1+1) _ _ _ _ rfl HRZ.out Tryz.underlying40 rfl (by kernel_rfl)) rfl ?_;rw [HQ.out,E.out];exact⟨⟨xo,xc,yo,yc,to',tc,rfl,HS.out.keepI HKZ.out⟩,HBZ.out⟩
section
variable {P:Program} {ops:Array Oper} {Q:Exit->Act->World->Prop} {md:Region.Mode} {S1:World->Prop} {p:Nat}
theorem zhx {i j:Nat} {oi oj:Oper} {fuel:Nat} {listed:Array Bool} {a:Act} {w:World} (hr:Region.ready md ops listed= [i,j]) (hi:ops[i]?=some oi) (hj:ops[j]?=some oj) (gi:oi.guard=none) (gj:oj.guard=none)
  (h1: ∀K:Act->World->Prop,Hid (∀a' w',S1 w'->zbD P md ops Q p S1 (fun _=>True) fuel (listed.setIfInBounds i true) a' w'->K a' w')->Oper.wp P oi a w K Q)
  (h2: ∀K:Act->World->Prop,Hid (∀a' w',S1 w'->zbD P md ops Q p S1 (fun _=>True) fuel (listed.setIfInBounds j true) a' w'->K a' w')->Oper.wp P oj a w K Q):
  zbD P md ops Q p S1 (fun _=>True) (fuel+1) listed a w:=by
 refine⟨fun h0=>(by rw [hr]at h0;cases h0),fun k hk=>?_⟩;rw [hr]at hk;rcases List.mem_cons.1 hk with rfl|hk
 ·exact zhK hi gi (h1 _ (zzH fun a' w' x y=>⟨⟨x,fun _=>trivial⟩,y⟩))
 ·rw [List.mem_singleton]at hk
  subst hk;exact zhK hj gj (h2 _ (zzH fun a' w' x y=>⟨⟨x,fun _=>trivial⟩,y⟩))
theorem zgH {listed:Array Bool} {a:Act} {w:World} (L:List Nat) (hS:S1 w) (h:Q .normal a w) (hall:(List.range ops.size).all (fun i=>listed.getD i true||L.contains i)=true)
  (hL: ∀i∈L,∃o,ops[i]?=some o/\o.guard=none/\ ∀K:Act->World->Prop,K a w->o.wp P a w K Q):
  ∀(fuel:Nat) (l:Array Bool),l.size=ops.size->zdQ l.toList<=fuel->(∀i,l.getD i true=false->listed.getD i true=false)->zbD P md ops Q p S1 (fun _=>True) fuel l a w
 |0,l,hs,hl,hle=>⟨List.eq_nil_iff_forall_not_mem.2 (fun i hi=>by
   obtain⟨h1,h2,-⟩:=zh6 hi
   have h3:l[i]?=some false:=by
    exact zz114
   have:=zgE l.toList (Nat.le_zero.1 hl) i false (by rw [Array.getElem?_toList];exact h3)
   cases this),h⟩
 |fuel+1,l,hs,hl,hle=>⟨fun _=>h,fun i hi=>by
   obtain⟨h1,h2,-⟩:=zh6 hi;have h4:=zzp.1 hall i (List.mem_range.2 h1);rw [hle i h2,zzq9]at h4;obtain⟨o,ho,g,hw⟩:=hL i (by simpa using h4)
   have h3:l[i]?=some false:=by
    exact zz114
   refine zhK ho g (hw _ ⟨⟨hS,fun _=>trivial⟩,zgH L hS h hall hL fuel (l.setIfInBounds i true) (by simpa using hs) ?_ ?_⟩)
   ·have h5:=zg1 l.toList i (by rw [Array.getElem?_toList];exact h3)
    rw [Array.toList_setIfInBounds];omega
   ·intro j hj
    by_cases c:j=i
    ·subst c
     have hjs:j<l.size:=by rw [hs];exact h1
     rw [Array.getD_eq_getD_getElem?,zzq7,if_pos rfl,if_pos hjs]at hj
     cases hj
    ·rw [Array.getD_eq_getD_getElem?,zzq7,if_neg (fun e=>c e.symm),<-Array.getD_eq_getD_getElem?]at hj
     exact hle j hj⟩
theorem zeU {o:Oper} {a:Act} {w:World} (ty:TypeId) (x:Operand) (ho:o.op= .load ty x)
  (g:Nat) (hx:a.eval x= .pointer (some ⟨g,0,none⟩)) (t:TypeId) (cs:Array Value) (fr:Nat × Nat) (d:TypeDesc) (hg:w.heap[g]?=some (.cells cs t fr))
  (hu:P.underlying ty=some d) (hd:(match d with|.struct _|.array _ _=>true|_=>false)=true) (hi:(P.info? ty).map (·.size)=some cs.size):(execOp a.eval o).run P w= .ok (.value (.agg cs)) w:=by
 unfold execOp;simp only [ho,hx,Instr.loadAt,Instr.sureAddr,Sem.run_bind,Sem.run_pure,Result.andThen_ok,run_loadVar_row w g t ty cs fr d hg hu hd hi]
end
theorem zeQ {P:Program} {w:World} {ops:Array Oper} {o:Oper} {a:Act} {K:Act->World->Prop} {Q:Exit->Act->World->Prop} (s x:Operand) (t e:TypeId)
  (ho:o.op= .call {callee:=.builtin .append,args:=#[s,x],argTypes:=#[t,t]}) (i:TypeInfo) (ht:P.underlying t=some (.slice e)) (hi:P.info? e=some i) (bo:zzA) (n m:Nat) (hle:n<=m) (hs:a.eval s= .slice bo n m) (ao:zzA) (c:Nat) (hx:a.eval x= .slice ao 0 c)
  (h:K (a.put o.dst (.slice bo n m)) w):o.wp P a w K Q:=by
 have hrun:=run_append_nothing (P:=P) w t t o.type e i ht hi bo n m hle (.slice ao 0 c) ⟨.inl ⟨e,ht⟩,fun w'=>by simp [Builtin.lenOf],by cases ao<;>simp [Builtin.firstCells,loadCells,loadCellsFrom],by cases ao<;>simp [Builtin.firstCells,loadCells,loadCellsFrom],by simp,fun u hu=>by cases hu⟩;unfold Oper.wp;simp [execOp,ho,resolve,invoke,builtin,hs,hx,hrun,Result.andThen];exact h
theorem zeA {P:Program} {w:World} {ops:Array Oper} {rest:List Oper} {o:Oper} {a:Act} {Q:Exit->Act->World->Prop} (hgd:o.guard=none) (s x:Operand) (t e:TypeId)
  (ho:o.op= .call {callee:=.builtin .append,args:=#[s,x],argTypes:=#[t,t]}) (i:TypeInfo) (ht:P.underlying t=some (.slice e)) (hi:P.info? e=some i) (bo:zzA) (n m:Nat) (hle:n<=m) (hs:a.eval s= .slice bo n m) (ao:zzA) (c:Nat) (hx:a.eval x= .slice ao 0 c)
  (h:wpList P ops Q rest (a.put o.dst (.slice bo n m)) w):wpList P ops Q (o::rest) a w:=
 wpList_plain hgd fun K hK=>zeQ (ops:=ops) s x t e ho i ht hi bo n m hle hs ao c hx (hK _ _ h)
theorem zen {w:World} {B g:Nat} (h:w.heap[g]?=some (.cells #[] 3 (0,0))) (hB:B<=g):OwnI w B (.slice (some ⟨g,0,none⟩) 0 0) []:=
 ⟨by simp,.inr ⟨g,0,#[],rfl,hB,h,zzL _,zzZ _,by simp,by simp⟩⟩
theorem znv {w w':World} {B:Nat} {v:Value} {l:List Int} (h:OwnI w B v l) (hs:w'.heap.size=w.heap.size+1) (hk: ∀k,k<w.heap.size->w'.heap[k]?=w.heap[k]?):OwnI w' B v l:=
 ⟨h.1,h.2.imp id fun⟨g,cap,cur,a,b,c,d⟩=>⟨g,cap,cur,a,b,(hk g (zd c)).trans c,d⟩⟩
theorem zdf {w:World} {g:Nat} {v:Int} {fr:Nat × Nat} (h:w.heap[g]?=some (.cells #[.int .i64 v] 3 fr)):IntsAt w (some ⟨g,0,none⟩) [v]:=
 .inr ⟨g,0,_,_,rfl,h,fun j hj=>by
  have:j=0:=by simp at hj;omega
  subst this;rfl⟩
theorem zdg {ops:Array Oper} {o:Oper} {a:Act} {w:World} {K:Act->World->Prop} {Q:Exit->Act->World->Prop} (s x:Operand) (ho:o.op= .call {callee:=.builtin .append,args:=#[s,x],argTypes:=#[38,38]})
  (B:Nat) (v:Value) (l:List Int) (hs:a.eval s=v) (hown:OwnI w B v l) (ao:zzA) (c:Nat) (m:List Int) (n:Nat) (hn:n=m.length) (hx:a.eval x= .slice ao n c) (hm:IntsAt w ao m) (hB:B<=w.heap.size) (hlen:l.length+m.length<=10000000)
  (h: ∀v' w',OwnI w' B v' (l++m)->w.grownBy w' v.ownBlock->(v'.ownBlock=v.ownBlock\/v'.ownBlock=some w.heap.size)->K (a.put o.dst v') w'):o.wp Tryz.prog a w K Q:=by
 obtain⟨i0,hi,hz0,hz1,hz2⟩:=info_parts zdo;subst hn;by_cases h0:m.length=0
 ·have hm0:m= []:=zzQ h0
  subst hm0;obtain⟨bo,k,rfl,-,hk⟩:=hown.ints;refine zeQ (ops:=ops) s x 38 3 ho i0 Tryz.underlying38 hi bo l.length k hk hs ao c hx ?_;exact h _ _ (by rw [List.append_nil];exact hown) ⟨rfl,rfl,rfl,zzL _,fun _ _ _=>rfl⟩ (.inl rfl)
 ·obtain⟨yb,yf,rfl,-,-⟩:=hm.cell (k:=0) (by omega)
  have hnw:=hm.news m.length (zzL _);rw [List.take_length]at hnw;refine wp_append_lies w s x 38 ho B 3 i0 _ 1 8 Tryz.underlying38 hi hz0 hz1 hz2 rfl (by decide) v l.length (l.map (Value.int .i64)) hs hown ⟨yb,yf,none⟩ m.length c (m.map (Value.int .i64)) hx (by simp) hnw (fun u hu=>by obtain⟨y,_,rfl⟩:=List.mem_map.1 hu;rfl) (by omega) (by unfold maxLen;omega) (by omega) hB w.heap.size rfl ?_;intro g cap w' ho' hg' hat' hlt';refine h _ _ ?_ hg' ?_
  ·unfold OwnI
   rw [zzq12,List.map_append];exact ho'
  ·rcases hat' with e|e
   ·exact .inl e.symm
   ·exact .inr (by rw [e];rfl)
theorem zc9 {ops:Array Oper} {rest:List Oper} {o:Oper} {a:Act} {w:World} {Q:Exit->Act->World->Prop} (hgd:o.guard=none) (s x:Operand) (ho:o.op= .call {callee:=.builtin .append,args:=#[s,x],argTypes:=#[38,38]})
  (B:Nat) (v:Value) (l:List Int) (hs:a.eval s=v) (hown:OwnI w B v l) (ao:zzA) (c:Nat) (m:List Int) (n:Nat) (hn:n=m.length) (hx:a.eval x= .slice ao n c) (hm:IntsAt w ao m) (hB:B<=w.heap.size) (hlen:l.length+m.length<=10000000)
  (h: ∀v' w',OwnI w' B v' (l++m)->w.grownBy w' v.ownBlock->(v'.ownBlock=v.ownBlock\/v'.ownBlock=some w.heap.size)->wpList Tryz.prog ops Q rest (a.put o.dst v') w'):wpList Tryz.prog ops Q (o::rest) a w:=
 wpList_plain hgd fun _ hK=>zdg (ops:=ops) s x ho B v l hs hown ao c m n hn hx hm hB hlen fun v' w' h1 h2 h3=>hK _ _ (h v' w' h1 h2 h3)
theorem zlL {w w':World} (h:w'.heap=w.heap) (h': ∃H,w'= {w with heap:=H}):w'=w:=by
 obtain⟨H,rfl⟩:=h';have h:H=w.heap:=h;subst h;rfl
theorem zfa {w:World} {g:Nat} {cs:Array Value} {t:TypeId} {fr:Nat × Nat} (hg:w.heap[g]?=some (.cells cs t fr)):w.setRow g cs=w:=
 zlL (Array.ext_getElem? fun k=>by
  by_cases c:k=g
  ·subst c;rw [setRow_heap w k cs cs t fr hg,hg]
  ·exact zzv w g k cs c) ⟨_,rfl⟩
theorem CsAt.upd {w w':World} {b:Nat} {s:VSt} (h:CsAt w b s) (hI:KeepI w w') (hk:w'.heap[b]?=w.heap[b]?):CsAt w' b s:=by
 obtain⟨xo,xc,yo,yc,to',tc,hr,hl⟩:=h;exact⟨xo,xc,yo,yc,to',tc,hk.trans hr,hl.keepI hI⟩
theorem CsAt.seven2 {w:World} {b:Nat} {s:VSt} (h:CsAt w b s): ∃xo xc yo yc to' tc,b<w.heap.size/\(w.cell? ⟨b,0,none⟩=some (.int .i64 s.frame)/\w.cell? ⟨b,1,none⟩=some (.slice xo s.x.length xc)/\w.cell? ⟨b,2,none⟩=some (.slice yo s.y.length yc)/\w.cell? ⟨b,3,none⟩=some (.slice to' s.tries.length tc) /\
  w.cell? ⟨b,4,none⟩=some (.bool s.mt)/\w.cell? ⟨b,5,none⟩=some (.int .i64 s.recv)/\w.cell? ⟨b,6,none⟩=some (.int .i64 s.frm))/\StLs w s xo xc yo yc to' tc:=by
 obtain⟨xo,xc,yo,yc,to',tc,hr,hl⟩:=h;exact⟨xo,xc,yo,yc,to',tc,zd hr,zN hr,hl⟩
theorem zkZ (w:World) (o0 o1 o2 o3 o4 o5:Obj):let W:=(((((w.alloc o0).alloc o1).alloc o2).alloc o3).alloc o4).alloc o5
  W.heap[w.heap.size]?=some o0/\W.heap[w.heap.size+1]?=some o1/\W.heap[w.heap.size+1+1]?=some o2/\W.heap[w.heap.size+1+1+1]?=some o3/\W.heap[w.heap.size+1+1+1+1]?=some o4/\W.heap[w.heap.size+1+1+1+1+1]?=some o5/\Below w.heap.size w W/\W.heap.size=w.heap.size+1+1+1+1+1+1:=by
 obtain⟨a0,a1,a2,ab⟩:=zbR w o0 o1 o2;obtain⟨b0,b1,b2,bb⟩:=zbR (((w.alloc o0).alloc o1).alloc o2) o3 o4 o5;have s: ∀(x:World) (o:Obj),(x.alloc o).heap.size=x.heap.size+1:=fun x o=>by simp
 have z:(((w.alloc o0).alloc o1).alloc o2).heap.size=w.heap.size+1+1+1:=by rw [s,s,s]
 have z':((((((w.alloc o0).alloc o1).alloc o2).alloc o3).alloc o4).alloc o5).heap.size=w.heap.size+1+1+1+1+1+1:=by rw [s,s,s,z]
 rw [z]at b0 b1 b2;exact⟨(bb.block _ (zd a0)).trans a0,(bb.block _ (zd a1)).trans a1,(bb.block _ (zd a2)).trans a2,b0,b1,b2,ab.trans (bb.mono (by rw [z];omega)),z'⟩
structure EV (w W:World) (ur xr:Array Value) (c N T H:VSt):Prop where
 u:W.heap[w.heap.size]?=some (.cells ur 27 (0,0))
 s:CsAt W (w.heap.size+1) c
 x:W.heap[w.heap.size+1+1]?=some (.cells xr 47 (0,0))
 n:CsAt W (w.heap.size+1+1+1) N
 t:CsAt W (w.heap.size+1+1+1+1) T
 h:CsAt W (w.heap.size+1+1+1+1+1) H
 bl:Below w.heap.size w W
section
variable {w W W':World} {ur xr:Array Value} {c N T H:VSt}
theorem EV.below (h:EV w W ur xr c N T H) (hb:Below W.heap.size W W'):EV w W' ur xr c N T H:=
 ⟨(hb.block _ (zd h.u)).trans h.u,h.s.below hb,(hb.block _ (zd h.x)).trans h.x,h.n.below hb,h.t.below hb,h.h.below hb,ze h.bl hb⟩
theorem EV.le (h:EV w W ur xr c N T H):w.heap.size+1+1+1+1+1<W.heap.size:=h.h.lt
theorem EV.cell_s (h:EV w W ur xr c N T H) {X Y:VSt} {xo yo to' xo2 yo2 to2:zzA} {xc yc tc xc2 yc2 tc2 j:Nat} {v:Value} (hr:W.heap[w.heap.size+1]?=some (.cells (zj Y xo xc yo yc to' tc) 40 (0,0)))
  (he:(zj Y xo xc yo yc to' tc).setIfInBounds j v=zj X xo2 xc2 yo2 yc2 to2 tc2) (hl:StLs W X xo2 xc2 yo2 yc2 to2 tc2):EV w (W.setCell ⟨w.heap.size+1,j,none⟩ v) ur xr X N T H/\KeepI W (W.setCell ⟨w.heap.size+1,j,none⟩ v):=by
 have hI:KeepI W (W.setCell ⟨w.heap.size+1,j,none⟩ v):=KeepI.setCell hr (by decide) _;have ho: ∀k,k≠w.heap.size+1->(W.setCell ⟨w.heap.size+1,j,none⟩ v).heap[k]?=W.heap[k]?:=fun k hk=>zzq6 W _ _ _ hk
 exact⟨⟨(ho (w.heap.size) (by omega)).trans h.u,⟨xo2,xc2,yo2,yc2,to2,tc2,by rw [<-he];exact zzS W _ _ _ _ _ hr,hl.keepI hI⟩,(ho (w.heap.size+1+1) (by omega)).trans h.x,h.n.upd hI (ho (w.heap.size+1+1+1) (by omega)),h.t.upd hI (ho (w.heap.size+1+1+1+1) (by omega)),h.h.upd hI (ho (w.heap.size+1+1+1+1+1) (by omega)),h.bl.setCell (p:=⟨w.heap.size+1,j,none⟩) (by show w.heap.size<=w.heap.size+1;omega) _⟩,hI⟩
theorem EV.row_n (h:EV w W ur xr c N T H) {X:VSt} {xo yo to':zzA} {xc yc tc:Nat} (hl:StLs W X xo xc yo yc to' tc):EV w (W.setRow (w.heap.size+1+1+1) (zj X xo xc yo yc to' tc)) ur xr c X T H/\KeepI W (W.setRow (w.heap.size+1+1+1) (zj X xo xc yo yc to' tc)):=by
 have hr: ∃cs,W.heap[w.heap.size+1+1+1]?=some (.cells cs 40 (0,0)):=by obtain⟨_,_,_,_,_,_,hr,_⟩:=h.n;exact⟨_,hr⟩
 obtain⟨cs,hr⟩:=hr;have hI:KeepI W (W.setRow (w.heap.size+1+1+1) (zj X xo xc yo yc to' tc)):=KeepI.setRow hr (by decide) _;have ho: ∀j,j≠w.heap.size+1+1+1->(W.setRow (w.heap.size+1+1+1) (zj X xo xc yo yc to' tc)).heap[j]?=W.heap[j]?:=fun j hj=>zzv W _ j _ hj
 exact⟨⟨(ho (w.heap.size) (by omega)).trans h.u,h.s.upd hI (ho (w.heap.size+1) (by omega)),(ho (w.heap.size+1+1) (by omega)).trans h.x,⟨xo,xc,yo,yc,to',tc,setRow_heap W _ _ _ _ _ hr,hl.keepI hI⟩,h.t.upd hI (ho (w.heap.size+1+1+1+1) (by omega)),h.h.upd hI (ho (w.heap.size+1+1+1+1+1) (by omega)),below_setRow h.bl (by omega) _⟩,hI⟩
theorem EV.cell_n (h:EV w W ur xr c N T H) {X Y:VSt} {xo yo to' xo2 yo2 to2:zzA} {xc yc tc xc2 yc2 tc2 j:Nat} {v:Value} (hr:W.heap[w.heap.size+1+1+1]?=some (.cells (zj Y xo xc yo yc to' tc) 40 (0,0)))
  (he:(zj Y xo xc yo yc to' tc).setIfInBounds j v=zj X xo2 xc2 yo2 yc2 to2 tc2) (hl:StLs W X xo2 xc2 yo2 yc2 to2 tc2):EV w (W.setCell ⟨w.heap.size+1+1+1,j,none⟩ v) ur xr c X T H/\KeepI W (W.setCell ⟨w.heap.size+1+1+1,j,none⟩ v):=by
 have hI:KeepI W (W.setCell ⟨w.heap.size+1+1+1,j,none⟩ v):=KeepI.setCell hr (by decide) _;have ho: ∀k,k≠w.heap.size+1+1+1->(W.setCell ⟨w.heap.size+1+1+1,j,none⟩ v).heap[k]?=W.heap[k]?:=fun k hk=>zzq6 W _ _ _ hk
 exact⟨⟨(ho (w.heap.size) (by omega)).trans h.u,h.s.upd hI (ho (w.heap.size+1) (by omega)),(ho (w.heap.size+1+1) (by omega)).trans h.x,⟨xo2,xc2,yo2,yc2,to2,tc2,by rw [<-he];exact zzS W _ _ _ _ _ hr,hl.keepI hI⟩,h.t.upd hI (ho (w.heap.size+1+1+1+1) (by omega)),h.h.upd hI (ho (w.heap.size+1+1+1+1+1) (by omega)),h.bl.setCell (p:=⟨w.heap.size+1+1+1,j,none⟩) (by show w.heap.size<=w.heap.size+1+1+1;omega) _⟩,hI⟩
theorem EV.row_t (h:EV w W ur xr c N T H) {X:VSt} {xo yo to':zzA} {xc yc tc:Nat} (hl:StLs W X xo xc yo yc to' tc):EV w (W.setRow (w.heap.size+1+1+1+1) (zj X xo xc yo yc to' tc)) ur xr c N X H/\KeepI W (W.setRow (w.heap.size+1+1+1+1) (zj X xo xc yo yc to' tc)):=by
 have hr: ∃cs,W.heap[w.heap.size+1+1+1+1]?=some (.cells cs 40 (0,0)):=by obtain⟨_,_,_,_,_,_,hr,_⟩:=h.t;exact⟨_,hr⟩
 obtain⟨cs,hr⟩:=hr;have hI:KeepI W (W.setRow (w.heap.size+1+1+1+1) (zj X xo xc yo yc to' tc)):=KeepI.setRow hr (by decide) _;have ho: ∀j,j≠w.heap.size+1+1+1+1->(W.setRow (w.heap.size+1+1+1+1) (zj X xo xc yo yc to' tc)).heap[j]?=W.heap[j]?:=fun j hj=>zzv W _ j _ hj
 exact⟨⟨(ho (w.heap.size) (by omega)).trans h.u,h.s.upd hI (ho (w.heap.size+1) (by omega)),(ho (w.heap.size+1+1) (by omega)).trans h.x,h.n.upd hI (ho (w.heap.size+1+1+1) (by omega)),⟨xo,xc,yo,yc,to',tc,setRow_heap W _ _ _ _ _ hr,hl.keepI hI⟩,h.h.upd hI (ho (w.heap.size+1+1+1+1+1) (by omega)),below_setRow h.bl (by omega) _⟩,hI⟩
theorem EV.cell_t (h:EV w W ur xr c N T H) {X Y:VSt} {xo yo to' xo2 yo2 to2:zzA} {xc yc tc xc2 yc2 tc2 j:Nat} {v:Value} (hr:W.heap[w.heap.size+1+1+1+1]?=some (.cells (zj Y xo xc yo yc to' tc) 40 (0,0)))
  (he:(zj Y xo xc yo yc to' tc).setIfInBounds j v=zj X xo2 xc2 yo2 yc2 to2 tc2) (hl:StLs W X xo2 xc2 yo2 yc2 to2 tc2):EV w (W.setCell ⟨w.heap.size+1+1+1+1,j,none⟩ v) ur xr c N X H/\KeepI W (W.setCell ⟨w.heap.size+1+1+1+1,j,none⟩ v):=by
 have hI:KeepI W (W.setCell ⟨w.heap.size+1+1+1+1,j,none⟩ v):=KeepI.setCell hr (by decide) _;have ho: ∀k,k≠w.heap.size+1+1+1+1->(W.setCell ⟨w.heap.size+1+1+1+1,j,none⟩ v).heap[k]?=W.heap[k]?:=fun k hk=>zzq6 W _ _ _ hk
 exact⟨⟨(ho (w.heap.size) (by omega)).trans h.u,h.s.upd hI (ho (w.heap.size+1) (by omega)),(ho (w.heap.size+1+1) (by omega)).trans h.x,h.n.upd hI (ho (w.heap.size+1+1+1) (by omega)),⟨xo2,xc2,yo2,yc2,to2,tc2,by rw [<-he];exact zzS W _ _ _ _ _ hr,hl.keepI hI⟩,h.h.upd hI (ho (w.heap.size+1+1+1+1+1) (by omega)),h.bl.setCell (p:=⟨w.heap.size+1+1+1+1,j,none⟩) (by show w.heap.size<=w.heap.size+1+1+1+1;omega) _⟩,hI⟩
theorem EV.row_h (h:EV w W ur xr c N T H) {X:VSt} {xo yo to':zzA} {xc yc tc:Nat} (hl:StLs W X xo xc yo yc to' tc):EV w (W.setRow (w.heap.size+1+1+1+1+1) (zj X xo xc yo yc to' tc)) ur xr c N T X/\KeepI W (W.setRow (w.heap.size+1+1+1+1+1) (zj X xo xc yo yc to' tc)):=by
 have hr: ∃cs,W.heap[w.heap.size+1+1+1+1+1]?=some (.cells cs 40 (0,0)):=by obtain⟨_,_,_,_,_,_,hr,_⟩:=h.h;exact⟨_,hr⟩
 obtain⟨cs,hr⟩:=hr;have hI:KeepI W (W.setRow (w.heap.size+1+1+1+1+1) (zj X xo xc yo yc to' tc)):=KeepI.setRow hr (by decide) _;have ho: ∀j,j≠w.heap.size+1+1+1+1+1->(W.setRow (w.heap.size+1+1+1+1+1) (zj X xo xc yo yc to' tc)).heap[j]?=W.heap[j]?:=fun j hj=>zzv W _ j _ hj
 exact⟨⟨(ho (w.heap.size) (by omega)).trans h.u,h.s.upd hI (ho (w.heap.size+1) (by omega)),(ho (w.heap.size+1+1) (by omega)).trans h.x,h.n.upd hI (ho (w.heap.size+1+1+1) (by omega)),h.t.upd hI (ho (w.heap.size+1+1+1+1) (by omega)),⟨xo,xc,yo,yc,to',tc,setRow_heap W _ _ _ _ _ hr,hl.keepI hI⟩,below_setRow h.bl (by omega) _⟩,hI⟩
theorem EV.cell_h (h:EV w W ur xr c N T H) {X Y:VSt} {xo yo to' xo2 yo2 to2:zzA} {xc yc tc xc2 yc2 tc2 j:Nat} {v:Value} (hr:W.heap[w.heap.size+1+1+1+1+1]?=some (.cells (zj Y xo xc yo yc to' tc) 40 (0,0)))
  (he:(zj Y xo xc yo yc to' tc).setIfInBounds j v=zj X xo2 xc2 yo2 yc2 to2 tc2) (hl:StLs W X xo2 xc2 yo2 yc2 to2 tc2):EV w (W.setCell ⟨w.heap.size+1+1+1+1+1,j,none⟩ v) ur xr c N T X/\KeepI W (W.setCell ⟨w.heap.size+1+1+1+1+1,j,none⟩ v):=by
 have hI:KeepI W (W.setCell ⟨w.heap.size+1+1+1+1+1,j,none⟩ v):=KeepI.setCell hr (by decide) _;have ho: ∀k,k≠w.heap.size+1+1+1+1+1->(W.setCell ⟨w.heap.size+1+1+1+1+1,j,none⟩ v).heap[k]?=W.heap[k]?:=fun k hk=>zzq6 W _ _ _ hk
 exact⟨⟨(ho (w.heap.size) (by omega)).trans h.u,h.s.upd hI (ho (w.heap.size+1) (by omega)),(ho (w.heap.size+1+1) (by omega)).trans h.x,h.n.upd hI (ho (w.heap.size+1+1+1) (by omega)),h.t.upd hI (ho (w.heap.size+1+1+1+1) (by omega)),⟨xo2,xc2,yo2,yc2,to2,tc2,by rw [<-he];exact zzS W _ _ _ _ _ hr,hl.keepI hI⟩,h.bl.setCell (p:=⟨w.heap.size+1+1+1+1+1,j,none⟩) (by show w.heap.size<=w.heap.size+1+1+1+1+1;omega) _⟩,hI⟩
end
theorem zeq {w:World} {g:Nat} {cs:Array Value} {T:TypeId} {fr:Nat × Nat} (h:w.heap[g]?=some (.cells cs T fr)): ∀j u,cs.toList[j]?=some u->w.cell? ((⟨g,0,none⟩:Addr).add j)=some u:=fun j u hj=>by
 have e:(⟨g,0,none⟩:Addr).add j=⟨g,j,none⟩:=by unfold Addr.add;split<;>simp_all
 rw [e,zzq0 _ _ _ _ _ _ h,<-Array.getElem?_toList];exact hj
theorem zdH {o:Oper} {a:Act} {w:World} {K:Act->World->Prop} {Q:Exit->Act->World->Prop} (x:Operand) (ho:o.op= .buildSlice 101 1 #[(0,x)]) (i1 i2 i3:Int) (b:Bool) (a1 a2 a3:zzA) (n1 n2 n3 c1 c2 c3:Nat)
  (hx:a.eval x= .agg #[.int .i64 i1,.slice a1 n1 c1,.slice a2 n2 c2,.slice a3 n3 c3,.bool b,.int .i64 i2,.int .i64 i3])
  (h:K (a.put o.dst (.slice (some ⟨w.heap.size,0,none⟩) 1 1)) (w.alloc (.cells #[.int .i64 i1,.slice a1 n1 c1,.slice a2 n2 c2,.slice a3 n3 c3,.bool b,.int .i64 i2,.int .i64 i3] 40))):o.wp Tryz.prog a w K Q:=by
 obtain⟨it,hi,hz0,hz1,hz2⟩:=info_parts ziS;refine wp_buildSlice 101 40 1 #[(0,x)] ho _ it _ Tryz.underlying101 hi hz0 (by rw [hz1];decide) (by rw [hz1];decide) ?_ h;rw [hz1];have e:((#[(0,x)]:Array (Nat × Operand)).map fun(i,x)=>(i,a.eval x)).toList= [(0,a.eval x)]:=by simp
 rw [e,hx];unfold Instr.fill;simp only;rw [if_neg (by simp [Value.cells])];unfold Instr.fill;simp [Value.cells,Array.range,List.range,List.range.loop];generalize hA:Array.ofFn _=A;have hs:A.size=7:=by rw [<-hA];simp
 obtain⟨l⟩:=A
 match l,hs with
 |[_,_,_,_,_,_,_],_=>rfl
theorem KnownAt.newFar {w w':World} {kb n:Nat} {K:Nat->List VSt} {cs:Array Value} {g:Nat->Nat} (h:KnownAt w kb n K cs g) {j:Nat} (h1:w.heap.size<=j) (h2:j<w'.heap.size):zcW w' kb n K g j:=
 ⟨h2,by have:=zd h.row;omega,fun k hk hn e=>by have:=h.lt hk hn;omega⟩
structure PB (W:World) (kb n:Nat) (K:Nat->List VSt) (cs:Array Value) (g:Nat->Nat) (bu bs bx bn bt bh:Nat) (ur xr:Array Value) (s N T H:VSt):Prop where
 k:KnownAt W kb n K cs g
 u:W.heap[bu]?=some (.cells ur 27 (0,0))
 x:W.heap[bx]?=some (.cells xr 47 (0,0))
 fs:zcW W kb n K g bs
 fn:zcW W kb n K g bn
 ft:zcW W kb n K g bt
 fh:zcW W kb n K g bh
 s:CsAt W bs s
 n:CsAt W bn N
 t:CsAt W bt T
 h:CsAt W bh H
section
variable {W W':World} {kb n:Nat} {K K':Nat->List VSt} {cs cs':Array Value} {g g':Nat->Nat} {bu bs bx bn bt bh:Nat} {ur xr:Array Value} {s N T H:VSt}
theorem PB.step (h:PB W kb n K cs g bu bs bx bn bt bh ur xr s N T H) (hk:KnownAt W' kb n K' cs' g') (hkk:KeepK kb n W K g W' K' g'):PB W' kb n K' cs' g' bu bs bx bn bt bh ur xr s N T H:=by
 have hI:=h.k.keepI hkk
 exact⟨hk,(hkk.2 bu (h.k.far h.u (by decide) (by decide))).2.trans h.u,(hkk.2 bx (h.k.far h.x (by decide) (by decide))).2.trans h.x,
  (hkk.2 bs h.fs).1,(hkk.2 bn h.fn).1,(hkk.2 bt h.ft).1,(hkk.2 bh h.fh).1,h.s.upd hI (hkk.2 bs h.fs).2,h.n.upd hI (hkk.2 bn h.fn).2,h.t.upd hI (hkk.2 bt h.ft).2,h.h.upd hI (hkk.2 bh h.fh).2⟩
theorem PB.below (h:PB W kb n K cs g bu bs bx bn bt bh ur xr s N T H) (hb:Below W.heap.size W W'):PB W' kb n K cs g bu bs bx bn bt bh ur xr s N T H:=h.step (h.k.below hb) (KeepK.below hb)
end
section
variable {W Wa w9:World} {kb n:Nat} {K:Nat->List VSt} {cs:Array Value} {g:Nat->Nat}
theorem KnownAt.kept (h:KnownAt W kb n K cs g) {k:Nat} (hk:k<n) {v:Value} (hv:cs[k]?=some v) (hWa:Below W.heap.size W Wa) (hg:Wa.grownBy w9 v.ownBlock) {j:Nat} (hf:zcW W kb n K g j):w9.heap[j]?=W.heap[j]?:=by
 obtain⟨v',hv',-,h2,h3⟩:=h.one k hk;rw [hv]at hv';injection hv' with hv';subst hv';refine(hg.block j (zzW hf.1 hWa.size) fun e=>?_).trans (hWa.block j hf.1);by_cases c:K k= []
 ·rw [h2 c]at e;cases e
 ·rw [h3 c]at e;exact hf.2.2 k hk c (zzf e).symm
theorem KnownAt.kept_kb (h:KnownAt W kb n K cs g) {k:Nat} (hk:k<n) {v:Value} (hv:cs[k]?=some v) (hWa:Below W.heap.size W Wa) (hg:Wa.grownBy w9 v.ownBlock):w9.heap[kb]?=some (.cells cs 101 (0,0)):=by
 obtain⟨v',hv',-,h2,h3⟩:=h.one k hk;rw [hv]at hv';injection hv' with hv';subst hv';have hlt:=zd h.row;refine((hg.block kb (zzW hlt hWa.size) fun e=>?_).trans (hWa.block kb hlt)).trans h.row;exact zz115
theorem KnownAt.stored (h:KnownAt W kb n K cs g) {k:Nat} (hk:k<n) {v:Value} {xs row:List Value} {X:VSt} {g9 c9:Nat} (hv:cs[k]?=some v) (hWa:Below W.heap.size W Wa) (hxs:RowsS W xs (K k)) (hrow:StR W row X)
  (ho:w9.ownsRow (kb+1) 40 7 (.slice (some ⟨g9,0,none⟩) ((K k).length+1) c9) ((K k).length+1) (xs++row)) (hg:Wa.grownBy w9 v.ownBlock) (hat:v.ownBlock=some g9\/g9=Wa.heap.size):
  ∃cs' g',KnownAt (w9.setCell ⟨kb,k,none⟩ (.slice (some ⟨g9,0,none⟩) ((K k).length+1) c9)) kb n (zbd K (k,X)) cs' g'/\KeepK kb n W K g (w9.setCell ⟨kb,k,none⟩ (.slice (some ⟨g9,0,none⟩) ((K k).length+1) c9)) (zbd K (k,X)) g' /\
   Below kb W (w9.setCell ⟨kb,k,none⟩ (.slice (some ⟨g9,0,none⟩) ((K k).length+1) c9)):=by
 obtain⟨cs',g',h1,h2,h3⟩:=(h.below hWa).app hk hv (hxs.keepI (.below hWa)) (hrow.keepI (.below hWa)) ho hg (by
  rcases hat with e|e
  ·exact .inl e.symm
  ·exact .inr (by rw [e];rfl))
 exact⟨cs',g',h1,(KeepK.below hWa).trans h2,(hWa.mono (zzb (zd h.row))).trans h3⟩
end
section
variable {W Wa w9:World} {kb n:Nat} {K:Nat->List VSt} {cs:Array Value} {g:Nat->Nat}
theorem KnownAt.low9 (h:KnownAt W kb n K cs g) {k:Nat} (hk:k<n) {v:Value} (hv:cs[k]?=some v) (hWa:Below W.heap.size W Wa) (hg:Wa.grownBy w9 v.ownBlock):Below kb W w9:=by
 obtain⟨v',hv',-,h2,h3⟩:=h.one k hk;rw [hv]at hv';injection hv' with hv';subst hv';have hlt:=zd h.row;refine(hWa.mono (zzb hlt)).grown hg (zzY (zzb hlt) hWa.size) fun j e=>?_
 exact zz115
end
theorem zf8 {w w':World} {b o:Nat} (h:w'.heap[b]?=w.heap[b]?):w'.cell? ⟨b,o,none⟩=w.cell? ⟨b,o,none⟩:=by
 unfold World.cell?;rw [h]
theorem ziF (w:World) (r1 r2 r3:Array Value):let W:=(((((w.alloc (.cells zSt 40)).alloc (.cells zSt 40)).alloc (.cells zSt 40)).setRow w.heap.size r1).setRow (w.heap.size+1) r2).setRow (w.heap.size+1+1) r3
  W.heap[w.heap.size]?=some (.cells r1 40 (0,0))/\W.heap[w.heap.size+1]?=some (.cells r2 40 (0,0))/\W.heap[w.heap.size+1+1]?=some (.cells r3 40 (0,0))/\Below w.heap.size w W:=by
 obtain⟨a0,a1,a2,hb⟩:=zbR w (.cells zSt 40) (.cells zSt 40) (.cells zSt 40);have b1:=(zzv _ w.heap.size (w.heap.size+1) r1 (by omega)).trans a1;have b2:=(zzv _ (w.heap.size+1) (w.heap.size+1+1) r2 (by omega)).trans ((zzv _ w.heap.size (w.heap.size+1+1) r1 (by omega)).trans a2);refine⟨?_,?_,setRow_heap _ _ _ _ _ _ b2,below_setRow (below_setRow (below_setRow hb (zzL _) _) (by omega) _) (by omega) _⟩
 ·exact(zzv _ _ _ _ (by omega)).trans ((zzv _ _ _ _ (by omega)).trans (setRow_heap _ _ _ _ _ _ a0))
 ·exact(zzv _ _ _ _ (by omega)).trans (setRow_heap _ _ _ _ _ _ b1)
theorem zb7: ∀(l:List (Nat × VSt)) (K:Nat->List VSt) (j:Nat),(l.foldl zbd K j).length<=(K j).length+l.length
 |[],K,j=>zzL _
 |p::l,K,j=>by
  have h1:=zb7 l (zbd K p) j
  have h2:(zbd K p j).length<=(K j).length+1:=by
   unfold zbd;split
   ·rw [zzq12];exact zzL _
   ·omega
  rw [List.foldl_cons,zzq18];omega
theorem AccS.below' {w w':World} {B:Nat} {v:Value} {n:Nat} {xs:List Value} (h:w.ownsRow B 40 7 v n xs) (hb:Below w.heap.size w w'):w'.ownsRow B 40 7 v n xs:=h.kept (zdU hb none) (by cases v.ownBlock<;>simp)
end Go.Proofs.YthajedcbgnloeaaGreatDoor
