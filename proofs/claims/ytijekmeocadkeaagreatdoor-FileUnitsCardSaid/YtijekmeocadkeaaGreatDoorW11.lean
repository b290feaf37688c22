import Derived.Test.YtijekmeocadkeaaGreatDoorW08
namespace Go.Proofs.YtijekmeocadkeaaGreatDoor
open Go.RowKit
set_option linter.unusedVariables false
set_option linter.unusedSimpArgs false
set_option maxRecDepth 100000
set_option maxHeartbeats 0
theorem ziO {T:Nat->List UInt8->Option ((Tm × Nat) × List UInt8)} {E:Tm->List UInt8} (H: ∀p l t p' l',T p l=some ((t,p'),l')->l=E t++l'):
  ∀(n p:Nat) (l:List UInt8) (ts:List Tm) (p':Nat) (l':List UInt8),zci T n p l=some ((ts,p'),l')->l=ts.flatMap E++l'/\ts.length=n
 |0,p,l,ts,p',l',h=>by
  simp only [zci,Option.some.injEq,Prod.mk.injEq]at h;rw [<-h.1.1,<-h.2];exact⟨rfl,rfl⟩
 |n+1,p,l,ts,p',l',h=>by
  unfold zci at h;obtain⟨x,hx,h⟩:=zzO.1 h;obtain⟨y,hy,h⟩:=zzO.1 h;simp only [zzX0]at h;have e1:=H p l x.1.1 x.1.2 x.2 hx;have e2:=ziO H n x.1.2 x.2 y.1.1 y.1.2 y.2 hy;rw [<-h.1.1,<-h.2];refine⟨?_,by rw [zzq18,e2.2]⟩;rw [List.flatMap_cons,zzq4,<-e2.1];exact e1
theorem zgV {T:Nat->List UInt8->Option ((Tm × Nat) × List UInt8)} {E:Tm->List UInt8} (H: ∀p l t p' l',T p l=some ((t,p'),l')->l=E t++l')
  {n p:Nat} {l:List UInt8} {ts:List Tm} {p':Nat} {l':List UInt8} (h:zcc T n p l=some ((ts,p'),l')):l=ts.flatMap E++l'/\ts.length=n/\n<=2000:=by
 unfold zcc at h;split at h
 ·next c=>have:=ziO H n p l ts p' l' h;exact⟨this.1,this.2,c⟩
 ·exact zz83
theorem zlj {E:Tm->List UInt8} {p:Nat} {l:List UInt8} {t:Tm} {p':Nat} {l':List UInt8} (h:ze7 p l=some ((t,p'),l')):113::l=(zx t++t.items.flatMap E)++l':=by
 unfold ze7 at h;obtain⟨x,hx,h⟩:=zzO.1 h;obtain⟨y,hy,h⟩:=zzO.1 h;obtain⟨z,hz,h⟩:=zzO.1 h;split at h
 ·next c=>
  obtain⟨q,hq,h⟩:=zzO.1 h;simp only [zzX0]at h;have e1:=zeI (b:=x.1) (l2:=x.2) hx;have e2:=zeI (b:=y.1) (l2:=y.2) hy;have e3:=zb0 (n:=z.1) (l2:=z.2) hz;have e4:=zb0 (n:=q.1) (l2:=q.2) hq;have hi:zbJ (q.1:Int)= [97,UInt8.ofNat q.1]:=by unfold zbJ;rw [if_pos (by omega)];rfl
  rw [<-h.1.1,<-h.2,e1.1,e2.1,e3.1,e4.1,c];show _=((113::(zE x.1++(zE y.1++zbJ (q.1:Int))))++ [])++q.2;rw [hi];simp
 ·exact zz83
theorem zk1 {T:Nat->List UInt8->Option ((Tm × Nat) × List UInt8)} {E:Tm->List UInt8} (H: ∀p l t p' l',T p l=some ((t,p'),l')->l=E t++l')
  {p:Nat} {l:List UInt8} {t:Tm} {p':Nat} {l':List UInt8} (h:zeA T p l=some ((t,p'),l')):112::l=(zx t++t.items.flatMap E)++l':=by
 unfold zeA at h;obtain⟨a,ha,h⟩:=zzO.1 h;obtain⟨b,hb,h⟩:=zzO.1 h;obtain⟨c,hc,h⟩:=zzO.1 h;obtain⟨d,hd,h⟩:=zzO.1 h;obtain⟨e,he,h⟩:=zzO.1 h;obtain⟨q,hq,h⟩:=zzO.1 h;simp only [zzX0]at h;have e1:=zb0 (n:=a.1) (l2:=a.2) ha;have e2:=zcH (n:=b.1) (l2:=b.2) hb;have e3:=zb0 (n:=c.1) (l2:=c.2) hc;have e4:=zeI (b:=d.1) (l2:=d.2) hd;have e5:=zcH (n:=e.1) (l2:=e.2) he;have e6:=zgV H (ts:=q.1.1) (p':=q.1.2) (l':=q.2) hq;rw [<-h.1.1,<-h.2,e1.1,e2.1,e3.1,e4.1,e5.1,e6.1];show _=((112::UInt8.ofNat ((a.1:Int).toNat)::(beN 2 (b.1:Int)++(UInt8.ofNat q.1.1.length::(zE d.1++beN 4 (e.1:Int)))))++q.1.1.flatMap E)++q.2;rw [e6.2.1];simp
theorem zof {n:Nat} (h:n<4294967296):beN 4 (zcg n)=beN 4 n:=by
 unfold zcg;split
 ·rfl
 ·have: ∀(k:Nat) (a:Int),k<=4->beN k (a-4294967296)=beN k a:=by
   intro k
   induction k with
   |zero=>intro a _;rfl
   |succ k ih=>
    intro a hk;show UInt8.ofNat _::beN k _=UInt8.ofNat _::beN k _;rw [ih a (by omega)];congr 2;have:k=0\/k=1\/k=2\/k=3:=by omega
    rcases this with rfl|rfl|rfl|rfl<;>simp<;>omega
  exact this 4 n (by omega)
theorem zqh {T:Nat->List UInt8->Option ((Tm × Nat) × List UInt8)} {E:Tm->List UInt8} (H: ∀p l t p' l',T p l=some ((t,p'),l')->l=E t++l')
  {p:Nat} {l:List UInt8} {t:Tm} {p':Nat} {l':List UInt8} (h:zc0 T p l=some ((t,p'),l')):l=(zx t++t.items.flatMap E)++l':=by
 unfold zc0 at h;obtain⟨x,hx,h⟩:=zzO.1 h;have e1:=zb0 (n:=x.1) (l2:=x.2) hx;split at h
 ·next c=>rw [e1.1,c];exact zlj h
 ·split at h
  ·next c=>rw [e1.1,c];exact zk1 H h
  ·exact zz83
theorem zqo {T:Nat->List UInt8->Option ((Tm × Nat) × List UInt8)} {E:Tm->List UInt8} (H: ∀p l t p' l',T p l=some ((t,p'),l')->l=E t++l')
  {p tag:Nat} {l0 l:List UInt8} {t:Tm} {p':Nat} {l':List UInt8} (h0:l0=UInt8.ofNat tag::l) (h:zda T p l0 tag l=some ((t,p'),l')):l0=(zx t++t.items.flatMap E)++l':=by
 unfold zda at h;by_cases c:tag=97
 ·rw [if_pos c]at h
  obtain⟨x,hx,h⟩:=zzO.1 h;simp only [zzX0]at h;have e1:=zb0 (n:=x.1) (l2:=x.2) hx;have hi:zbJ (x.1:Int)= [97,UInt8.ofNat x.1]:=by unfold zbJ;rw [if_pos (by omega)];rfl
  rw [h0,c,<-h.1.1,<-h.2,e1.1];show _=(zbJ (x.1:Int)++ [])++x.2;rw [hi];rfl
 rw [if_neg c]at h;by_cases c:tag=98
 ·rw [if_pos c]at h
  obtain⟨x,hx,h⟩:=zzO.1 h;have e1:=zcH (n:=x.1) (l2:=x.2) hx;split at h
  ·next c2=>
   simp only [zzX0]at h;have hx4:x.1<4294967296:=e1.2;have hs: -2147483648<=zcg x.1/\zcg x.1<=2147483647:=by unfold zcg;split<;>omega
   have hi:zbJ (zcg x.1)=98::beN 4 (zcg x.1):=by unfold zbJ;rw [if_neg (by omega),if_pos hs]
   rw [h0,c,<-h.1.1,<-h.2,e1.1];show _=(zbJ (zcg x.1)++ [])++x.2;rw [hi,zof hx4];simp
  ·exact zz83
 rw [if_neg c]at h;by_cases c:tag=110
 ·rw [if_pos c]at h
  obtain⟨x,hx,h⟩:=zzO.1 h;simp only [zzX0]at h;have e1:=znb (n:=x.1) (l2:=x.2) hx;rw [h0,c,<-h.1.1,<-h.2];show 110::l=(zbJ x.1++ [])++x.2;rw [e1,List.append_nil]
 rw [if_neg c]at h;by_cases c:tag=119
 ·rw [if_pos c]at h
  obtain⟨x,hx,h⟩:=zzO.1 h;obtain⟨y,hy,h⟩:=zzO.1 h;simp only [zzX0]at h;have e1:=zb0 (n:=x.1) (l2:=x.2) hx;have e2:=zez (b:=y.1) (l2:=y.2) hy;rw [h0,c,<-h.1.1,<-h.2,e1.1,e2.1,<-e2.2];show _=(zE y.1++ [])++y.2;rw [List.append_nil];rfl
 rw [if_neg c]at h;by_cases c:tag=104
 ·rw [if_pos c]at h
  obtain⟨x,hx,h⟩:=zzO.1 h;obtain⟨y,hy,h⟩:=zzO.1 h;simp only [zzX0]at h;have e1:=zb0 (n:=x.1) (l2:=x.2) hx;have e2:=zgV H (ts:=y.1.1) (p':=y.1.2) (l':=y.2) hy;rw [h0,c,<-h.1.1,<-h.2,e1.1,e2.1,<-e2.2.1];rfl
 rw [if_neg c]at h;by_cases c:tag=106
 ·rw [if_pos c]at h
  simp only [zzX0]at h;rw [h0,c,<-h.1.1,<-h.2];rfl
 rw [if_neg c]at h;by_cases c:tag=108
 ·rw [if_pos c]at h
  obtain⟨x,hx,h⟩:=zzO.1 h;obtain⟨y,hy,h⟩:=zzO.1 h;simp only [zzX0]at h;have e1:=zcH (n:=x.1) (l2:=x.2) hx;have e2:=zgV H (ts:=y.1.1) (p':=y.1.2) (l':=y.2) hy;have e3:((y.1.1.length:Int)-1)=(x.1:Int):=by omega
  rw [h0,c,<-h.1.1,<-h.2,e1.1,e2.1];show _=((108::beN 4 ((y.1.1.length:Int)-1))++y.1.1.flatMap E)++y.2;rw [e3];simp
 rw [if_neg c]at h;by_cases c:tag=109
 ·rw [if_pos c]at h
  obtain⟨x,hx,h⟩:=zzO.1 h;obtain⟨y,hy,h⟩:=zzO.1 h;simp only [zzX0]at h;have e1:=zcH (n:=x.1) (l2:=x.2) hx;have e2:=zez (b:=y.1) (l2:=y.2) hy
  have hh:zx (tmK 10 (bytes:=y.1) (bits:=8*(y.1.size:Int)))=109::(beN 4 y.1.size++y.1.data.toList):=by
   show(if(8*(y.1.size:Int))%8=0 then _ else _)=_;rw [if_pos (by omega)];rfl
  rw [h0,c,<-h.1.1,<-h.2,e1.1,e2.1,hh,e2.2];show _=((109::(beN 4 x.1++y.1.data.toList))++ [])++y.2;simp
 rw [if_neg c]at h;by_cases c:tag=77
 ·rw [if_pos c]at h
  obtain⟨x,hx,h⟩:=zzO.1 h;obtain⟨y,hy,h⟩:=zzO.1 h;split at h
  ·next c2=>
   obtain⟨z,hz,h⟩:=zzO.1 h;simp only [zzX0]at h;have e1:=zcH (n:=x.1) (l2:=x.2) hx;have e2:=zb0 (n:=y.1) (l2:=y.2) hy;have e3:=zez (b:=z.1) (l2:=z.2) hz;have hm:(8*((x.1:Int)-1)+y.1)%8=y.1:=by omega
   have hh:zx (tmK 10 (bytes:=z.1) (bits:=8*((x.1:Int)-1)+y.1))=77::(beN 4 z.1.size++(UInt8.ofNat y.1::z.1.data.toList)):=by
    show(if(8*((x.1:Int)-1)+y.1)%8=0 then _ else 77::(beN 4 z.1.size++(UInt8.ofNat ((8*((x.1:Int)-1)+y.1)%8).toNat::z.1.data.toList)))=_;rw [if_neg (by omega),hm];rfl
   rw [h0,c,<-h.1.1,<-h.2,e1.1,e2.1,e3.1,hh,e3.2];show _=((77::(beN 4 x.1++(UInt8.ofNat y.1::z.1.data.toList)))++ [])++z.2;simp
  ·exact zz83
 rw [if_neg c]at h;by_cases c:tag=88
 ·rw [if_pos c]at h
  obtain⟨x,hx,h⟩:=zzO.1 h;obtain⟨y,hy,h⟩:=zzO.1 h;obtain⟨z,hz,h⟩:=zzO.1 h;split at h
  ·next c2=>
   obtain⟨q,hq,h⟩:=zzO.1 h;simp only [zzX0]at h;have e1:=zeI (b:=x.1) (l2:=x.2) hx;have e2:=zcH (n:=y.1) (l2:=y.2) hy;have e3:=zcH (n:=z.1) (l2:=z.2) hz;have e4:=zcH (n:=q.1) (l2:=q.2) hq;rw [h0,c,<-h.1.1,<-h.2,e1.1,e2.1,e3.1,e4.1,c2];show _=((88::(zE x.1++(beN 4 y.1++(beN 4 0++beN 4 q.1))))++ [])++q.2;simp
  ·exact zz83
 rw [if_neg c]at h;by_cases c:tag=90
 ·rw [if_pos c]at h
  obtain⟨x,hx,h⟩:=zzO.1 h;split at h
  ·next c2=>
   obtain⟨y,hy,h⟩:=zzO.1 h;obtain⟨z,hz,h⟩:=zzO.1 h;obtain⟨q,hq,h⟩:=zzO.1 h;simp only [zzX0]at h;have e1:=zcH (n:=x.1) (l2:=x.2) hx;have e2:=zeI (b:=y.1) (l2:=y.2) hy;have e3:=zcH (n:=z.1) (l2:=z.2) hz;have e4:=zcH (n:=q.1) (l2:=q.2) hq;rw [h0,c,<-h.1.1,<-h.2,e1.1,e2.1,e3.1,e4.1,c2];show _=((90::0::1::(zE y.1++(beN 4 z.1++beN 4 q.1)))++ [])++q.2;rw [show beN 2 ((1:Nat):Int)= [0,1]from rfl];simp
  ·exact zz83
 rw [if_neg c]at h;exact zqh H h
theorem zjf: ∀(f p:Nat) (l:List UInt8) (t:Tm) (p':Nat) (l':List UInt8),zy f p l=some ((t,p'),l')->l=zF f t++l'
 |0,p,l,t,p',l',h=>absurd h (by simp [zy])
 |f+1,p,l,t,p',l',h=>by
  unfold zy at h;split at h
  ·obtain⟨x,hx,h⟩:=zzO.1 h
   have e1:=zb0 (n:=x.1) (l2:=x.2) hx;exact zqo (zjf f) e1.1 h
  ·exact zz83
theorem zqz (c:UInt8) (l:List UInt8):beV (c::l)=c.toNat*256^l.length+beV l:=by
 exact zz86
theorem zl6: ∀(k n:Nat),beV (beN k (n:Int))=n%256^k
 |0,n=>by rw [Nat.pow_zero,Nat.mod_one];rfl
 |k+1,n=>by
  have e:(2:Int)^(8*k)=((256^k:Nat):Int):=by
   rw [Int.natCast_pow,Int.pow_mul];rfl
  have h:beN (k+1) (n:Int)=UInt8.ofNat (n/256^k%256)::beN k n:=by
   show UInt8.ofNat ((n:Int)/2^(8*k)%256).toNat::beN k n=_;rw [e,<-Int.natCast_ediv];congr 2
  rw [h,zqz,zi,zl6 k n,UInt8.toNat_ofNat',Nat.mod_eq_of_lt (a:=n/256^k%256) (by omega),Nat.pow_succ,Nat.mod_mul,Nat.mul_comm (256^k),Nat.add_comm]
theorem ze9 {k n:Nat} (h:n<256^k) (l:List UInt8):zbz k (beN k (n:Int)++l)=some (n,l):=by
 have hl:=zi k (n:Int);unfold zbz;rw [if_pos (by rw [zzq1];omega),List.take_left' hl,List.drop_left' hl,zl6,Nat.mod_eq_of_lt h]
theorem zed {k:Nat} {n:Int} (h0:0<=n) (h:n.toNat<256^k) (l:List UInt8):zbz k (beN k n++l)=some (n.toNat,l):=by
 have:=ze9 h l
 rwa [Int.toNat_of_nonneg h0]at this
theorem ze4 (b:ByteArray) (l:List UInt8):zcz b.size (b.data.toList++l)=some (b,l):=by
 have hl:b.data.toList.length=b.size:=rfl;unfold zcz;rw [if_pos (by rw [zzq1];omega),List.take_left' hl,List.drop_left' hl]
theorem zb8 {n:Nat} (h:n<256) (l:List UInt8):zH (UInt8.ofNat n::l)=some (n,l):=by
 show some ((UInt8.ofNat n).toNat,l)=_;rw [UInt8.toNat_ofNat',Nat.mod_eq_of_lt (by omega)]
theorem zft {b:ByteArray} (h:b.size<256) (l:List UInt8):zck (zE b++l)=some (b,l):=by
 unfold zck;rw [show zE b++l=UInt8.ofNat 119::(UInt8.ofNat b.size::(b.data.toList++l))from rfl,zb8 (by omega),zzq0,if_pos rfl,zb8 h,zzq0,ze4]
theorem zms: ∀(f n:Nat),n<256^f->leV (leN f n)=n
 |0,n,h=>by
   rw [Nat.pow_zero]at h;have:n=0:=by omega
   subst this;rfl
 |f+1,n,h=>by
  unfold leN;split
  ·next c=>rw [c];rfl
  ·show 256*leV (leN f (n/256))+(UInt8.ofNat n).toNat=n
   rw [zms f (n/256) (by rw [Nat.pow_succ]at h;omega),UInt8.toNat_ofNat'];show 256*(n/256)+n%256=n;omega
theorem zkR: ∀(f n:Nat),n<256^f->0<n->(leN f n).getD ((leN f n).length-1) 0≠0
 |0,n,h,h0=>by rw [Nat.pow_zero]at h;omega
 |f+1,n,h,h0=>by
  unfold leN;rw [if_neg (by omega)];by_cases c:n/256=0
  ·have e:leN f (n/256)= []:=by rw [c];cases f<;>rfl
   rw [e];show UInt8.ofNat n≠0;intro e2;have:=congrArg UInt8.toNat e2;rw [UInt8.toNat_ofNat']at this;have h256:n%256=0:=this;omega
  ·have ih:=zkR f (n/256) (by rw [Nat.pow_succ]at h;omega) (by omega)
   have hne:leN f (n/256)≠ []:=fun e=>by rw [e]at ih;exact ih rfl
   obtain⟨c2,l2,e⟩:=List.exists_cons_of_ne_nil hne;rw [e]at ih ⊢;exact ih
theorem znV: ∀(f n:Nat),n<256^f-> ∀k,256^k<=n->k<(leN f n).length
 |0,n,h,k,hk=>by have:=Nat.pow_pos (n:=k) (show 0<256 by omega);rw [Nat.pow_zero]at h;omega
 |f+1,n,h,k,hk=>by
  have hp:=Nat.pow_pos (n:=k) (show 0<256 by omega);unfold leN;rw [if_neg (by omega),zzq18]
  cases k with
  |zero=>omega
  |succ k=>
   have:=znV f (n/256) (by rw [Nat.pow_succ]at h;omega) k (by rw [Nat.pow_succ]at hk;omega);omega
theorem znt {n:Int} (h:I64 n) (hb:n< -2147483648\/2147483647<n) (l:List UInt8): ∃l2,zgU n=110::l2/\zdO (l2++l)=some (n,l):=by
 unfold I64 at h;refine⟨_,rfl,?_⟩;have hu:n.natAbs<256^8:=by rw [show(256:Nat)^8=18446744073709551616 from rfl];omega
 have hz:=zi8 8 n.natAbs;have hg:=znV 8 n.natAbs hu 3 (by rw [show(256:Nat)^3=16777216 from rfl];omega);have hlast:=zkR 8 n.natAbs hu (by omega);have hv:=zms 8 n.natAbs hu;generalize leN 8 n.natAbs=c at *;have hs:(if n<0 then(1:UInt8)else 0)=UInt8.ofNat (if n<0 then 1 else 0):=by split<;>rfl
 have hc:(⟨c.toArray⟩:ByteArray).size=c.length:=by simp [ByteArray.size]
 have hstr:=ze4 ⟨c.toArray⟩ l;rw [hc]at hstr;have hstr:zcz c.length (c++l)=some (⟨c.toArray⟩,l):=by simpa using hstr
 unfold zdO;rw [hs];show(zH (UInt8.ofNat c.length::(UInt8.ofNat (if n<0 then 1 else 0)::(c++l)))).bind _=_;rw [zb8 (by omega),zzq0,zb8 (by split<;>omega),zzq0,if_pos ⟨by omega,hz,by split<;>omega⟩,hstr,zzq0]
 have hV:zeu (if n<0 then 1 else 0) ⟨c.toArray⟩=some n:=by
  unfold zeu;rw [hc];rw [if_neg (by simpa using hlast)];have hv:leV (⟨c.toArray⟩:ByteArray).data.toList=n.natAbs:=by simpa using hv
  rw [hv];by_cases c0:n<0
  ·rw [if_pos c0,if_pos rfl,if_pos (by omega)];congr 1;omega
  ·rw [if_neg c0,if_neg (by omega),if_pos (by omega)];congr 1;omega
 rw [hV,zzq0]
def zbg:Nat->Tm->Nat
 |0,_=>0
 |f+1,t=>1+(t.items.map (zbg f)).sum
def OkF:Nat->Tm->Prop
 |0,_=>False
 |f+1,t=>t.Ok/\ ∀x∈t.items,OkF f x
theorem zia {T:Nat->List UInt8->Option ((Tm × Nat) × List UInt8)} {E:Tm->List UInt8} {N:Tm->Nat}:
  ∀(ts:List Tm) (p:Nat) (l:List UInt8),(∀x∈ts,∀p l,p+N x<=2000->T p (E x++l)=some ((x,p+N x),l))->p+(ts.map N).sum<=2000->zci T ts.length p (ts.flatMap E++l)=some ((ts,p+(ts.map N).sum),l)
 |[],p,l,_,_=>rfl
 |x::ts,p,l,H,hp=>by
  rw [List.map_cons,List.sum_cons]at hp;have ih:=zia ts (p+N x) l (fun y hy=>H y (zzh _ hy)) (by omega);rw [zzq18,List.flatMap_cons,zzq4];unfold zci;rw [H x (List.mem_cons_self ..) p _ (by omega),zzq0];show(zci T ts.length (p+N x) (ts.flatMap E++l)).bind _=_;rw [ih,zzq0,List.map_cons,List.sum_cons,Nat.add_assoc]
theorem bz {b:ByteArray} (h:b.size=0):b=⟨#[]⟩:=ByteArray.ext (Array.eq_empty_of_size_eq_zero h)
theorem zfJ {t:Tm} (h:zcL t=true):
  (¬(t.kind=1\/t.kind=3\/t.kind=4\/t.kind=6)->t.int=0)/\(¬(t.kind=3\/t.kind=4\/t.kind=6)->t.gen=0)/\(¬(t.kind=2\/t.kind=3\/t.kind=4\/t.kind=5\/t.kind=6)->t.name=⟨#[]⟩) /\
  (¬t.kind=5->t.func=⟨#[]⟩)/\(¬(t.kind=4\/t.kind=5)->t.arity=0)/\(¬(t.kind=4\/t.kind=7\/t.kind=9)->t.items= [])/\(¬t.kind=10->t.bytes=⟨#[]⟩)/\(¬t.kind=10->t.bits=0):=by
 unfold zcL at h;simp only [zzq6,Bool.or_eq_true,zzq7,zI,zS,zL]at h;obtain⟨⟨⟨⟨⟨⟨⟨h1,h2⟩,h3⟩,h4⟩,h5⟩,h6⟩,h7⟩,h8⟩:=h;exact⟨fun c=>h1.resolve_left c,fun c=>h2.resolve_left c,fun c=>bz (h3.resolve_left c),fun c=>bz (h4.resolve_left c),fun c=>h5.resolve_left c,fun c=>List.length_eq_zero_iff.1 (h6.resolve_left c),fun c=>bz (h7.resolve_left c),fun c=>h8.resolve_left c⟩
theorem zfr (t:Tm):t= .mk t.kind t.int t.gen t.name t.func t.arity t.items t.bytes t.bits:=by cases t;rfl
theorem zuq {t:Tm} (hz:zcL t=true) (hk:t.kind=1):t=tmK 1 (int:=t.int):=by
 obtain⟨h1,h2,h3,h4,h5,h6,h7,h8⟩:=zfJ hz
 conv=>lhs;rw [zfr t]
 rw [hk,h2 (by omega),h3 (by omega),h4 (by omega),h5 (by omega),h6 (by omega),h7 (by omega),h8 (by omega)];rfl
theorem zuB {t:Tm} (hz:zcL t=true) (hk:t.kind=2):t=tmK 2 (name:=t.name):=by
 obtain⟨h1,h2,h3,h4,h5,h6,h7,h8⟩:=zfJ hz
 conv=>lhs;rw [zfr t]
 rw [hk,h1 (by omega),h2 (by omega),h4 (by omega),h5 (by omega),h6 (by omega),h7 (by omega),h8 (by omega)];rfl
theorem zux {t:Tm} (hz:zcL t=true) (hk:t.kind=3):t=tmK 3 (int:=t.int) (gen:=t.gen) (name:=t.name):=by
 exact zz87
theorem zup {t:Tm} (hz:zcL t=true) (hk:t.kind=4):t=tmK 4 (int:=t.int) (gen:=t.gen) (name:=t.name) (arity:=t.arity) (items:=t.items):=by
 obtain⟨h1,h2,h3,h4,h5,h6,h7,h8⟩:=zfJ hz
 conv=>lhs;rw [zfr t]
 rw [hk,h4 (by omega),h7 (by omega),h8 (by omega)];rfl
theorem zut {t:Tm} (hz:zcL t=true) (hk:t.kind=5):t=tmK 5 (name:=t.name) (func:=t.func) (arity:=t.arity):=by
 obtain⟨h1,h2,h3,h4,h5,h6,h7,h8⟩:=zfJ hz
 conv=>lhs;rw [zfr t]
 rw [hk,h1 (by omega),h2 (by omega),h6 (by omega),h7 (by omega),h8 (by omega)];rfl
theorem zuC {t:Tm} (hz:zcL t=true) (hk:t.kind=6):t=tmK 6 (int:=t.int) (gen:=t.gen) (name:=t.name):=by
 exact zz87
theorem zuo {t:Tm} (hz:zcL t=true) (hk:t.kind=7):t=tmK 7 (items:=t.items):=by
 exact zz88
theorem zuE {t:Tm} (hz:zcL t=true) (hk:t.kind=8):t=tmK 8:=by
 obtain⟨h1,h2,h3,h4,h5,h6,h7,h8⟩:=zfJ hz
 conv=>lhs;rw [zfr t]
 rw [hk,h1 (by omega),h2 (by omega),h3 (by omega),h4 (by omega),h5 (by omega),h6 (by omega),h7 (by omega),h8 (by omega)];rfl
theorem zus {t:Tm} (hz:zcL t=true) (hk:t.kind=9):t=tmK 9 (items:=t.items):=by
 exact zz88
theorem zt5 {t:Tm} (hz:zcL t=true) (hk:t.kind=10):t=tmK 10 (bytes:=t.bytes) (bits:=t.bits):=by
 obtain⟨h1,h2,h3,h4,h5,h6,h7,h8⟩:=zfJ hz
 conv=>lhs;rw [zfr t]
 rw [hk,h1 (by omega),h2 (by omega),h3 (by omega),h4 (by omega),h5 (by omega),h6 (by omega)];rfl
theorem zog {N:Tm->Nat}: ∀(ts:List Tm),(∀x∈ts,1<=N x)->ts.length<=(ts.map N).sum
 |[],_=>zzL _
 |x::ts,h=>by
  have h1:=h x (zzg ..);have h2:=zog ts fun y hy=>h y (zzh _ hy)
  rw [List.map_cons,List.sum_cons,zzq18];omega
theorem zry {f:Nat} {t:Tm} (h:zj f t=true):1<=zbg f t:=by
 cases f with
 |zero=>exact absurd h (by simp [zj])
 |succ f=>unfold zbg;omega
theorem ztn {f:Nat} (T:Nat->List UInt8->Option ((Tm × Nat) × List UInt8)) (t:Tm) (p:Nat) (l:List UInt8) (hl:zcm t=true) (hok:t.Ok)
  (H: ∀x∈t.items,∀p l,p+zbg f x<=2000->T p (zF f x++l)=some ((x,p+zbg f x),l)) (hN: ∀x∈t.items,1<=zbg f x) (hp:p+(t.items.map (zbg f)).sum<=2000):
  ∃(tag:Nat) (l1:List UInt8),zx t++t.items.flatMap (zF f)++l=UInt8.ofNat tag::l1/\tag<256/\zda T p (zx t++t.items.flatMap (zF f)++l) tag l1=some ((t,p+(t.items.map (zbg f)).sum),l):=by
 unfold zcm at hl;rw [zzq6]at hl;obtain⟨hk,hz⟩:=hl;have hlen:=zog t.items hN
 have hit:t.items.length<=2000->zcc T t.items.length p (t.items.flatMap (zF f)++l)=some ((t.items,p+(t.items.map (zbg f)).sum),l):=fun c=>by
  unfold zcc;rw [if_pos c];exact zia t.items p l H hp
 have hit:=hit (by omega);obtain⟨ok1,ok2,ok3,-⟩:=hok;obtain⟨h1,h2,h3,h4,h5,h6,h7,h8⟩:=zfJ hz;by_cases k1:t.kind=1
 ·have he:=zuq hz k1
  have hh:zx t=zbJ t.int:=by unfold zx;rw [if_pos k1]
  have hi:t.items= []:=h6 (by omega);simp only [hi,hh,List.flatMap_nil,List.append_nil,List.map_nil,List.sum_nil,Nat.add_zero];by_cases c1:0<=t.int/\t.int<=255
  ·refine⟨97,UInt8.ofNat t.int.toNat::l,by unfold zbJ;rw [if_pos c1];rfl,by omega,?_⟩
   unfold zda;rw [if_pos rfl];rw [zb8 (by omega),zzq0];show some ((tmK 1 (int:=(t.int.toNat:Int)),p),l)=_;rw [Int.toNat_of_nonneg c1.1,<-he]
  ·by_cases c2: -2147483648<=t.int/\t.int<=2147483647
   ·have hs:zcg (t.int%4294967296).toNat=t.int:=by unfold zcg;split<;>omega
    have hb:beN 4 t.int=beN 4 ((t.int%4294967296).toNat:Nat):=by
     have:=zof (n:=(t.int%4294967296).toNat) (by omega);rw [hs]at this;exact this
    refine⟨98,beN 4 t.int++l,by unfold zbJ;rw [if_neg c1,if_pos c2];rfl,by omega,?_⟩;unfold zda;rw [if_neg (by omega),if_pos rfl];rw [hb,ze9 (by rw [show(256:Nat)^4=4294967296 from rfl];omega),zzq0];show(if zcg (t.int%4294967296).toNat<0\/255<zcg (t.int%4294967296).toNat then some ((tmK 1 (int:=zcg (t.int%4294967296).toNat),p),l)else none)=_;rw [hs,if_pos (by omega),<-he]
   ·obtain⟨l2,e1,e2⟩:=znt ok2 (by omega) l
    refine⟨110,l2++l,by unfold zbJ;rw [if_neg c1,if_neg c2,e1];rfl,by omega,?_⟩;unfold zda;rw [if_neg (by omega),if_neg (by omega),if_pos rfl];rw [e2,zzq0];show some ((tmK 1 (int:=t.int),p),l)=_;rw [<-he]
 by_cases k2:t.kind=2
 ·have he:=zuB hz k2
  have hh:zx t=zE t.name:=by unfold zx;rw [if_neg k1,if_pos k2]
  have hi:t.items= []:=h6 (by omega);have hn:zw t.name=true:=by unfold okK at hk;rw [if_neg k1,if_pos k2]at hk;exact hk
  have hm:=zJ hn;simp only [hi,hh,List.flatMap_nil,List.append_nil,List.map_nil,List.sum_nil,Nat.add_zero];refine⟨119,UInt8.ofNat t.name.size::(t.name.data.toList++l),rfl,by omega,?_⟩;unfold zda;rw [if_neg (by omega),if_neg (by omega),if_neg (by omega),if_pos rfl];rw [zb8 (by omega),zzq0];show(zcz t.name.size (t.name.data.toList++l)).bind _=_;rw [ze4,zzq0];show some ((tmK 2 (name:=t.name),p),l)=_;rw [<-he]
 by_cases k3:t.kind=3
 ·have he:=zux hz k3
  have hh:zx t=90::0::1::(zE t.name++(beN 4 t.gen++beN 4 t.int)):=by unfold zx;rw [if_neg k1,if_neg k2,if_pos k3]
  have hq:wi t.int 1 2147483647=true/\wi t.gen 1 2147483647=true/\zw t.name=true:=by unfold okK at hk;rw [if_neg k1,if_neg k2,if_pos (.inl k3)]at hk;simpa [zzq6,and_assoc] using hk
  have hm:=zJ hq.2.2;have hw1:=zeQ hq.1;have hw2:=zeQ hq.2.1;have hi:t.items= []:=h6 (by omega);simp only [hi,hh,List.flatMap_nil,List.append_nil,List.map_nil,List.sum_nil,Nat.add_zero];refine⟨90,0::1::(zE t.name++(beN 4 t.gen++(beN 4 t.int++l))),by simp,by omega,?_⟩;unfold zda;rw [if_neg (by omega),if_neg (by omega),if_neg (by omega),if_neg (by omega),if_neg (by omega),if_neg (by omega),if_neg (by omega),if_neg (by omega),if_neg (by omega),if_neg (by omega),if_pos rfl];rw [show zbz 2 (0::1::(zE t.name++(beN 4 t.gen++(beN 4 t.int++l))))=some (1,zE t.name++(beN 4 t.gen++(beN 4 t.int++l)))from ze9 (k:=2) (n:=1) (by decide) _,zzq0,if_pos rfl];rw [zft (by omega),zzq0];rw [zed (by omega) (by rw [show(256:Nat)^4=4294967296 from rfl];omega),zzq0];rw [zed (by omega) (by rw [show(256:Nat)^4=4294967296 from rfl];omega),zzq0];show some ((tmK 3 (int:=(t.int.toNat:Int)) (gen:=(t.gen.toNat:Int)) (name:=t.name),p),l)=_;rw [Int.toNat_of_nonneg (by omega),Int.toNat_of_nonneg (by omega),<-he]
 by_cases k4:t.kind=4
 ·have he:=zup hz k4
  have h36: ¬(t.kind=3\/t.kind=6):=by omega
  have hh:zx t=112::UInt8.ofNat t.arity.toNat::(beN 2 t.int++(UInt8.ofNat t.items.length::(zE t.name++beN 4 t.gen))):=by unfold zx;rw [if_neg k1,if_neg k2,if_neg k3,if_pos k4]
  have hq:wi t.int 0 999=true/\wi t.gen 1 2147483647=true/\zw t.name=true/\wi t.arity 0 16=true/\t.items.length<=200:=by unfold okK at hk;rw [if_neg k1,if_neg k2,if_neg h36,if_pos k4]at hk;simpa [zzq6,and_assoc] using hk
  have hm:=zJ hq.2.2.1;have hw1:=zeQ hq.1;have hw2:=zeQ hq.2.1;have hw3:=zeQ hq.2.2.2.1;rw [hh];refine⟨112,UInt8.ofNat t.arity.toNat::(beN 2 t.int++(UInt8.ofNat t.items.length::(zE t.name++(beN 4 t.gen++(t.items.flatMap (zF f)++l))))),by simp,by omega,?_⟩;rw [show 112::UInt8.ofNat t.arity.toNat::(beN 2 t.int++(UInt8.ofNat t.items.length::(zE t.name++beN 4 t.gen)))++t.items.flatMap (zF f)++l=UInt8.ofNat 112::(UInt8.ofNat t.arity.toNat::(beN 2 t.int++(UInt8.ofNat t.items.length::(zE t.name++(beN 4 t.gen++(t.items.flatMap (zF f)++l))))))by simp];unfold zda;rw [if_neg (by omega),if_neg (by omega),if_neg (by omega),if_neg (by omega),if_neg (by omega),if_neg (by omega),if_neg (by omega),if_neg (by omega),if_neg (by omega),if_neg (by omega),if_neg (by omega)];unfold zc0;rw [zb8 (by omega),zzq0,if_neg (show¬(112:Nat)=113 by decide),if_pos rfl];unfold zeA;rw [zb8 (by omega),zzq0];rw [zed (by omega) (by rw [show(256:Nat)^2=65536 from rfl];omega),zzq0];rw [zb8 (by omega),zzq0,zft (by omega),zzq0];rw [zed (by omega) (by rw [show(256:Nat)^4=4294967296 from rfl];omega),zzq0,hit,zzq0];show some ((tmK 4 (int:=(t.int.toNat:Int)) (gen:=(t.gen.toNat:Int)) (name:=t.name) (arity:=(t.arity.toNat:Int)) (items:=t.items),_),l)=_;rw [Int.toNat_of_nonneg (by omega),Int.toNat_of_nonneg (by omega),Int.toNat_of_nonneg (by omega),<-he]
 by_cases k5:t.kind=5
 ·have he:=zut hz k5
  have h36: ¬(t.kind=3\/t.kind=6):=by omega
  have hh:zx t=113::(zE t.name++(zE t.func++zbJ t.arity)):=by unfold zx;rw [if_neg k1,if_neg k2,if_neg k3,if_neg k4,if_pos k5]
  have hq:zw t.name=true/\zw t.func=true/\wi t.arity 0 16=true:=by unfold okK at hk;rw [if_neg k1,if_neg k2,if_neg h36,if_neg k4,if_pos k5]at hk;simpa [zzq6,and_assoc] using hk
  have hm:=zJ hq.1;have hm2:=zJ hq.2.1;have hw3:=zeQ hq.2.2;have ha:zbJ t.arity= [97,UInt8.ofNat t.arity.toNat]:=by unfold zbJ;rw [if_pos (by omega)]
  have hi:t.items= []:=h6 (by omega);simp only [hi,hh,List.flatMap_nil,List.append_nil,List.map_nil,List.sum_nil,Nat.add_zero];refine⟨113,zE t.name++(zE t.func++(UInt8.ofNat 97::UInt8.ofNat t.arity.toNat::l)),by rw [ha];simp,by omega,?_⟩;rw [show 113::(zE t.name++(zE t.func++zbJ t.arity))++l=UInt8.ofNat 113::(zE t.name++(zE t.func++(UInt8.ofNat 97::UInt8.ofNat t.arity.toNat::l)))by rw [ha];simp];unfold zda;rw [if_neg (by omega),if_neg (by omega),if_neg (by omega),if_neg (by omega),if_neg (by omega),if_neg (by omega),if_neg (by omega),if_neg (by omega),if_neg (by omega),if_neg (by omega),if_neg (by omega)];unfold zc0;rw [zb8 (by omega),zzq0,if_pos rfl];unfold ze7;rw [zft (by omega),zzq0,zft (by omega),zzq0,zb8 (by omega),zzq0,if_pos rfl,zb8 (by omega),zzq0];show some ((tmK 5 (name:=t.name) (func:=t.func) (arity:=(t.arity.toNat:Int)),p),l)=_;rw [Int.toNat_of_nonneg (by omega),<-he]
 by_cases k6:t.kind=6
 ·have he:=zuC hz k6
  have hh:zx t=88::(zE t.name++(beN 4 t.int++(beN 4 0++beN 4 t.gen))):=by unfold zx;rw [if_neg k1,if_neg k2,if_neg k3,if_neg k4,if_neg k5,if_pos k6]
  have hq:wi t.int 1 2147483647=true/\wi t.gen 1 2147483647=true/\zw t.name=true:=by unfold okK at hk;rw [if_neg k1,if_neg k2,if_pos (.inr k6)]at hk;simpa [zzq6,and_assoc] using hk
  have hm:=zJ hq.2.2;have hw1:=zeQ hq.1;have hw2:=zeQ hq.2.1;have hi:t.items= []:=h6 (by omega);simp only [hi,hh,List.flatMap_nil,List.append_nil,List.map_nil,List.sum_nil,Nat.add_zero];refine⟨88,zE t.name++(beN 4 t.int++(beN 4 ((0:Nat):Int)++(beN 4 t.gen++l))),by simp,by omega,?_⟩;unfold zda;rw [if_neg (by omega),if_neg (by omega),if_neg (by omega),if_neg (by omega),if_neg (by omega),if_neg (by omega),if_neg (by omega),if_neg (by omega),if_neg (by omega),if_pos rfl];rw [zft (by omega),zzq0,zed (by omega) (by rw [show(256:Nat)^4=4294967296 from rfl];omega),zzq0,ze9 (by decide),zzq0,if_pos rfl,zed (by omega) (by rw [show(256:Nat)^4=4294967296 from rfl];omega),zzq0];show some ((tmK 6 (int:=(t.int.toNat:Int)) (gen:=(t.gen.toNat:Int)) (name:=t.name),p),l)=_;rw [Int.toNat_of_nonneg (by omega),Int.toNat_of_nonneg (by omega),<-he]
 by_cases k7:t.kind=7
 ·have he:=zuo hz k7
  have h36: ¬(t.kind=3\/t.kind=6):=by omega
  have hh:zx t= [104,UInt8.ofNat t.items.length]:=by unfold zx;rw [if_neg k1,if_neg k2,if_neg k3,if_neg k4,if_neg k5,if_neg k6,if_pos k7]
  have hq:t.items.length<=255:=by unfold okK at hk;rw [if_neg k1,if_neg k2,if_neg h36,if_neg k4,if_neg k5,if_pos k7]at hk;simpa using hk
  rw [hh];refine⟨104,UInt8.ofNat t.items.length::(t.items.flatMap (zF f)++l),by simp,by omega,?_⟩;unfold zda;rw [if_neg (by omega),if_neg (by omega),if_neg (by omega),if_neg (by omega),if_pos rfl];rw [zb8 (by omega),zzq0,hit,zzq0];show some ((tmK 7 (items:=t.items),_),l)=_;rw [<-he]
 by_cases k8:t.kind=8
 ·have he:=zuE hz k8
  have hh:zx t= [106]:=by unfold zx;rw [if_neg k1,if_neg k2,if_neg k3,if_neg k4,if_neg k5,if_neg k6,if_neg k7,if_pos k8]
  have hi:t.items= []:=h6 (by omega);simp only [hi,hh,List.flatMap_nil,List.append_nil,List.map_nil,List.sum_nil,Nat.add_zero];refine⟨106,l,rfl,by omega,?_⟩;unfold zda;rw [if_neg (by omega),if_neg (by omega),if_neg (by omega),if_neg (by omega),if_neg (by omega),if_pos rfl];rw [<-he]
 by_cases k9:t.kind=9
 ·have he:=zus hz k9
  have h36: ¬(t.kind=3\/t.kind=6):=by omega
  have hh:zx t=108::beN 4 ((t.items.length:Int)-1):=by unfold zx;rw [if_neg k1,if_neg k2,if_neg k3,if_neg k4,if_neg k5,if_neg k6,if_neg k7,if_neg k8,if_pos k9]
  have hq:2<=t.items.length:=by unfold okK at hk;rw [if_neg k1,if_neg k2,if_neg h36,if_neg k4,if_neg k5,if_neg k7,if_neg k8,if_pos k9]at hk;simp at hk;exact hk.1
  have hn:((t.items.length:Int)-1).toNat+1=t.items.length:=by omega
  rw [hh];refine⟨108,beN 4 ((t.items.length:Int)-1)++(t.items.flatMap (zF f)++l),by simp,by omega,?_⟩;unfold zda;rw [if_neg (by omega),if_neg (by omega),if_neg (by omega),if_neg (by omega),if_neg (by omega),if_neg (by omega),if_pos rfl];rw [zed (by omega) (by rw [show(256:Nat)^4=4294967296 from rfl];omega),zzq0];show(zcc T (((t.items.length:Int)-1).toNat+1) p _).bind _=_;rw [hn,hit,zzq0];show some ((tmK 9 (items:=t.items),_),l)=_;rw [<-he]
 by_cases k10:t.kind=10
 ·have he:=zt5 hz k10
  have h36: ¬(t.kind=3\/t.kind=6):=by omega
  have hq:zgy t=true:=by unfold okK at hk;rw [if_neg k1,if_neg k2,if_neg h36,if_neg k4,if_neg k5,if_neg k7,if_neg k8,if_neg k9,if_pos k10]at hk;exact hk
  have hv:=zgh hq;have hi:t.items= []:=h6 (by omega);by_cases c:t.bits%8=0
  ·have hh:zx t=109::(beN 4 t.bytes.size++t.bytes.data.toList):=by unfold zx;rw [if_neg k1,if_neg k2,if_neg k3,if_neg k4,if_neg k5,if_neg k6,if_neg k7,if_neg k8,if_neg k9,if_pos k10,if_pos c]
   simp only [hi,hh,List.flatMap_nil,List.append_nil,List.map_nil,List.sum_nil,Nat.add_zero];refine⟨109,beN 4 (t.bytes.size:Nat)++(t.bytes.data.toList++l),by simp,by omega,?_⟩;unfold zda;rw [if_neg (by omega),if_neg (by omega),if_neg (by omega),if_neg (by omega),if_neg (by omega),if_neg (by omega),if_neg (by omega),if_pos rfl];rw [ze9 (by rw [show(256:Nat)^4=4294967296 from rfl];omega),zzq0,ze4,zzq0];show some ((tmK 10 (bytes:=t.bytes) (bits:=8*(t.bytes.size:Int)),p),l)=_;rw [show 8*(t.bytes.size:Int)=t.bits by omega,<-he]
  ·have hh:zx t=77::(beN 4 t.bytes.size++(UInt8.ofNat (t.bits%8).toNat::t.bytes.data.toList)):=by unfold zx;rw [if_neg k1,if_neg k2,if_neg k3,if_neg k4,if_neg k5,if_neg k6,if_neg k7,if_neg k8,if_neg k9,if_pos k10,if_neg c]
   simp only [hi,hh,List.flatMap_nil,List.append_nil,List.map_nil,List.sum_nil,Nat.add_zero];refine⟨77,beN 4 (t.bytes.size:Nat)++(UInt8.ofNat (t.bits%8).toNat::(t.bytes.data.toList++l)),by simp,by omega,?_⟩;unfold zda;rw [if_neg (by omega),if_neg (by omega),if_neg (by omega),if_neg (by omega),if_neg (by omega),if_neg (by omega),if_neg (by omega),if_neg (by omega),if_pos rfl];rw [ze9 (by rw [show(256:Nat)^4=4294967296 from rfl];omega),zzq0,zb8 (by omega),zzq0,if_pos (by omega),ze4,zzq0];show some ((tmK 10 (bytes:=t.bytes) (bits:=8*((t.bytes.size:Int)-1)+((t.bits%8).toNat:Int)),p),l)=_;rw [show 8*((t.bytes.size:Int)-1)+((t.bits%8).toNat:Int)=t.bits by omega,<-he]
 ·exfalso
  have h36: ¬(t.kind=3\/t.kind=6):=by omega
  unfold okK at hk;rw [if_neg k1,if_neg k2,if_neg h36,if_neg k4,if_neg k5,if_neg k7,if_neg k8,if_neg k9,if_neg k10]at hk;exact absurd hk (by decide)
theorem zje: ∀(f p:Nat) (t:Tm) (l:List UInt8),zj f t=true->OkF f t->p+zbg f t<=2000->zy f p (zF f t++l)=some ((t,p+zbg f t),l)
 |0,p,t,l,h,_,_=>absurd h (by simp [zj])
 |f+1,p,t,l,h,ho,hp=>by
  unfold zj at h;rw [zzq6,List.all_eq_true]at h;unfold zbg at hp ⊢;have H: ∀x∈t.items,∀p l,p+zbg f x<=2000->zy f p (zF f x++l)=some ((x,p+zbg f x),l):=fun x hx p l hp=>zje f p x l (h.2 x hx) (ho.2 x hx) hp
  obtain⟨tag,l1,e1,e2,e3⟩:=ztn (f:=f) (zy f) t (p+1) l h.1 ho.1 H (fun x hx=>zry (h.2 x hx)) (by omega);show zy (f+1) p (zx t++t.items.flatMap (zF f)++l)=_;unfold zy;rw [if_pos (by omega)];have hb:zH (zx t++t.items.flatMap (zF f)++l)=some (tag,l1):=by rw [e1];exact zb8 e2 l1
  rw [hb,zzq0];show zda (zy f) (p+1) _ tag l1=_;rw [e3,Nat.add_assoc]
theorem zjN {f:Nat}: ∀(ts:List Tm),(∀x∈ts,(zbg f x:Int)<=zt f x)->((ts.map (zbg f)).sum:Int)<=zbB (ts.map (zt f))
 |[],_=>Int.le_refl _
 |x::ts,h=>by
  have h1:=h x (zzg ..);have h2:=zjN ts fun y hy=>h y (zzh _ hy)
  rw [List.map_cons,List.sum_cons,List.map_cons];show _<=zt f x+zbB (ts.map (zt f));rw [Int.natCast_add];omega
theorem zfp: ∀(f:Nat) (t:Tm),zj f t=true->(zbg f t:Int)<=zt f t
 |0,t,h=>absurd h (by simp [zj])
 |f+1,t,h=>by
  unfold zj zcm at h;rw [zzq6,zzq6,List.all_eq_true]at h;have h1:=(zgd h.1.1).2;have h2:=zjN t.items fun x hx=>zfp f x (h.2 x hx)
  show((1+(t.items.map (zbg f)).sum:Nat):Int)<=zR t+zbB (t.items.map (zt f));rw [Int.natCast_add];omega
theorem zos {f:Nat} {t:Tm} (hv:zA f t=true) (ho:OkF f t) (l:List UInt8):zy f 0 (zF f t++l)=some ((t,zbg f t),l):=by
 unfold zA at hv;rw [zzq6,zzq7]at hv;have:=zfp f t hv.1;have h:=zje f 0 t l hv.1 ho (by omega)
 rwa [Nat.zero_add]at h
theorem zp0 {w:World} {r o:Nat} {cs:Array Value} {T:TypeId} {fr:Nat × Nat} (h:w.heap[r]?=some (.cells cs T fr)) (ho:cs.size<=o):w.cell? ⟨r,o,none⟩=none:=by
 rw [zzq2 w r o _ _ _ h];exact Array.getElem?_eq_none ho
theorem zoG {w w':World} {r b o:Nat} (hg:w.grownBy w' (some r)) (hb:b<w.heap.size) (hne:b≠r):w'.cell? ⟨b,o,none⟩=w.cell? ⟨b,o,none⟩:=by
 have h:=hg.block b hb (fun e=>hne (zzf e));unfold World.cell?;rw [h]
theorem SlAt.grown {α:Type} {w w':World} {size r:Nat} {R R':List Value->α->Prop} {ao:zzA} {l:List α} {cs:Array Value} {T:TypeId} {fr:Nat × Nat} (h:SlAt w size R ao l) (hg:w.grownBy w' (some r)) (hr:w.heap[r]?=some (.cells cs T fr)) (hsz:cs.size<size) (hR: ∀cs a,R cs a->R' cs a):SlAt w' size R' ao l:=by
 rcases h with h|⟨b,off,e,hB,hx⟩
 ·exact .inl h
 ·by_cases hl:l= []
  ·exact .inl hl
  have hpos:0<l.length:=List.length_pos_iff.2 hl
  have hne:b≠r:=by
   intro c;obtain⟨cs',hlen,hc,-⟩:=hx 0 hpos;have h1:=hc (size-1) (by omega);rw [c,zp0 hr (by omega),zzq11 (by omega)]at h1;exact absurd h1 (by simp)
  refine .inr ⟨b,off,e,zzW hB hg.size,fun j hj=>?_⟩;obtain⟨cs',hlen,hc,hR'⟩:=hx j hj;exact⟨cs',hlen,fun i hi=>(zoG hg hB hne).trans (hc i hi),hR _ _ hR'⟩
theorem TmAt.grown {w w':World} {r:Nat} {cs:Array Value} {T:TypeId} {fr:Nat × Nat} (hg:w.grownBy w' (some r)) (hr:w.heap[r]?=some (.cells cs T fr)) (hsz:cs.size<9): ∀{f:Nat} {vs:List Value} {t:Tm},TmAt w f vs t->TmAt w' f vs t
 |0,_,_,h=>h
 |_+1,_,_,⟨⟨ao,c,e,hs⟩,ho⟩=>⟨⟨ao,c,e,hs.grown hg hr hsz fun _ _ h=>TmAt.grown hg hr hsz h⟩,ho⟩
theorem zbb {w a b:World} {o:Option Nat} (h:w.grownBy a o) (hb:Below w.heap.size a b):w.grownBy b o:=
 ⟨hb.os.trans h.os,hb.tape.trans h.tape,hb.output.trans h.output,zzY h.size hb.size,fun k hk hn=>(hb.block k hk).trans (h.block k hk hn)⟩
theorem zeB {w a b:World} {r k:Nat} {x:Obj} (hg:a.grownBy b (some r)) (hr:r<w.heap.size) (hk:w.heap.size<=k) (h:a.heap[k]?=some x):b.heap[k]?=some x:=
 (hg.block k (Array.getElem?_eq_some_iff.1 h).1 (fun e=>by have:=zzf e;omega)).trans h
structure StX (w0:World) (r:Nat) (s:ByteArray) (l:List UInt8) (p X Y:Nat) (row:Array Value) (wx:World):Prop where
 rd:RdL r s l p wx
 gr:w0.grownBy wx (some r)
 x:wx.heap[X]?=some (.cells zC 55 (0,0))
 y:wx.heap[Y]?=some (.cells row 55 (0,0))
 hr:r<w0.heap.size
 hX:X=w0.heap.size
 hY:X<Y
theorem StX.call {w0:World} {r:Nat} {s:ByteArray} {l:List UInt8} {p X Y:Nat} {row:Array Value} {wx wy:World} (h:StX w0 r s l p X Y row wx) {l':List UInt8} {p':Nat} (hr:RdL r s l' p' wy) (hg:wx.grownBy wy (some r)):StX w0 r s l' p' X Y row wy:=
 ⟨hr,zk h.gr hg,zeB hg h.hr (Nat.le_of_eq h.hX.symm) h.x,zeB hg h.hr (by have:=h.hX;have:=h.hY;omega) h.y,h.hr,h.hX,h.hY⟩
theorem StX.set {w0:World} {r:Nat} {s:ByteArray} {l:List UInt8} {p X Y:Nat} {row:Array Value} {wx:World} (h:StX w0 r s l p X Y row wx) (j:Nat) (v:Value):StX w0 r s l p X Y (row.setIfInBounds j v) (wx.setCell ⟨Y,j,none⟩ v):=by
 have hY:=h.hY;have hX:=h.hX;have hr:=h.hr;obtain⟨a,ha,hl⟩:=h.rd;have e: ∀k,k≠Y->(wx.setCell ⟨Y,j,none⟩ v).heap[k]?=wx.heap[k]?:=fun k hk=>zzq10 _ _ _ _ (by simpa using hk)
 exact⟨⟨a,(e r (by omega)).trans ha,hl⟩,zbb h.gr ((zzR _ _).setCell (show w0.heap.size<=Y by omega) _),(e X (by omega)).trans h.x,zzS _ _ j _ _ v h.y,hr,hX,hY⟩
structure StO (w0:World) (r:Nat) (s:ByteArray) (l:List UInt8) (p X:Nat) (wx:World):Prop where
 rd:RdL r s l p wx
 gr:w0.grownBy wx (some r)
 x:wx.heap[X]?=some (.cells zC 55 (0,0))
 hr:r<w0.heap.size
 hX:X=w0.heap.size
theorem StO.start {r:Nat} {s:ByteArray} {l:List UInt8} {p:Nat} {w:World} (h:RdL r s l p w):StO w r s l p w.heap.size (w.alloc (.cells zC 55)):=
 ⟨h.below (zzE _ _),zbb (zcP w _) (zzE _ _),zzF _ _,h.lt,rfl⟩
theorem StO.call {w0:World} {r:Nat} {s:ByteArray} {l:List UInt8} {p X:Nat} {wx wy:World} (h:StO w0 r s l p X wx) {l':List UInt8} {p':Nat} (hr:RdL r s l' p' wy) (hg:wx.grownBy wy (some r)):StO w0 r s l' p' X wy:=
 ⟨hr,zk h.gr hg,zeB hg h.hr (Nat.le_of_eq h.hX.symm) h.x,h.hr,h.hX⟩
theorem StO.new {w0:World} {r:Nat} {s:ByteArray} {l:List UInt8} {p X:Nat} {wx:World} (h:StO w0 r s l p X wx) (row:Array Value):StX w0 r s l p X wx.heap.size row (wx.alloc (.cells row 55)):=by
 have hl:=zc h.x;have hX:=h.hX;exact⟨h.rd.below (zzE _ _),zbb h.gr ((zzR _ _).alloc (by omega) _),(Below.heap_alloc _ _ _ hl).trans h.x,zzF _ _,h.hr,hX,hl⟩
theorem StX.fin {w0:World} {r:Nat} {s:ByteArray} {l:List UInt8} {p X Y:Nat} {row:Array Value} {wx:World} (h:StX w0 r s l p X Y row wx) (v0 v1 v2 v3 v4 v5 v6 v7 v8:Value):
  RdL r s l p (((((((((wx.setCell ⟨X,0,none⟩ v0).setCell ⟨X,1,none⟩ v1).setCell ⟨X,2,none⟩ v2).setCell ⟨X,3,none⟩ v3).setCell ⟨X,4,none⟩ v4).setCell ⟨X,5,none⟩ v5).setCell ⟨X,6,none⟩ v6).setCell ⟨X,7,none⟩ v7).setCell ⟨X,8,none⟩ v8) /\
  w0.grownBy (((((((((wx.setCell ⟨X,0,none⟩ v0).setCell ⟨X,1,none⟩ v1).setCell ⟨X,2,none⟩ v2).setCell ⟨X,3,none⟩ v3).setCell ⟨X,4,none⟩ v4).setCell ⟨X,5,none⟩ v5).setCell ⟨X,6,none⟩ v6).setCell ⟨X,7,none⟩ v7).setCell ⟨X,8,none⟩ v8) (some r):=by
 have hX:=h.hX;have hr:=h.hr;have hb:=zch (B:=X) (zzL X) (zzR X wx) v0 v1 v2 v3 v4 v5 v6 v7 v8;obtain⟨a,ha,hl⟩:=h.rd;refine⟨⟨a,(hb.block r (by omega)).trans ha,hl⟩,zbb h.gr ?_⟩;rw [<-hX];exact hb
def zhz (G:Tm->Prop) (T:Nat->List UInt8->Option ((Tm × Nat) × List UInt8)):Prop:=
 ∀p l t p' l',T p l=some ((t,p'),l')->p<=2000->l.length<=maxLen->G t/\p<=p'/\p'<=2000/\l'.length<=l.length
theorem zbZ {l l2:List UInt8} {n:Nat} (h:zH l=some (n,l2)):n<256/\l2.length<=l.length:=by
 have e:=zb0 h;exact⟨e.2,by rw [e.1,zzq18];omega⟩
theorem zcy {k:Nat} {l l2:List UInt8} {n:Nat} (h:zbz k l=some (n,l2)):n<256^k/\l2.length<=l.length:=by
 have e:=zcH h;exact⟨e.2,by rw [e.1,zzq1];omega⟩
theorem zfW {k:Nat} {l l2:List UInt8} {b:ByteArray} (h:zcz k l=some (b,l2)):b.size=k/\b.size<=l.length/\l2.length<=l.length:=by
 have e:=zez h;have:b.data.toList.length=b.size:=rfl;exact⟨e.2,by rw [e.1,zzq1];omega,by rw [e.1,zzq1];omega⟩
theorem zfv {l l2:List UInt8} {b:ByteArray} (h:zck l=some (b,l2)):b.size<256/\l2.length<=l.length:=by
 have e:=zeI h;exact⟨e.2,by rw [e.1,zzq1];omega⟩
theorem zoe {m:Nat} {b:ByteArray} {n:Int} (h:zeu m b=some n):I64 n:=by
 unfold zeu at h;unfold I64;split at h
 ·exact zz83
 split at h
 ·exact zz89
 ·exact zz89
theorem znQ {l l2:List UInt8} {n:Int} (h:zdO l=some (n,l2)):I64 n/\l2.length<=l.length:=by
 unfold zdO at h;obtain⟨x,hx,h⟩:=zzO.1 h;obtain⟨y,hy,h⟩:=zzO.1 h;split at h
 ·obtain⟨z,hz,h⟩:=zzO.1 h
  obtain⟨v,hv,h⟩:=zzO.1 h;simp only [zzX0]at h;have e1:=zbZ (n:=x.1) (l2:=x.2) hx;have e2:=zbZ (n:=y.1) (l2:=y.2) hy;have e3:=zfW (b:=z.1) (l2:=z.2) hz;exact⟨h.1▸zoe hv,by rw [<-h.2];omega⟩
 ·exact zz83
theorem zjv {G:Tm->Prop} {T:Nat->List UInt8->Option ((Tm × Nat) × List UInt8)} (H:zhz G T): ∀(n p:Nat) (l:List UInt8) (ts:List Tm) (p':Nat) (l':List UInt8),zci T n p l=some ((ts,p'),l')->p<=2000->l.length<=maxLen ->
  (∀x∈ts,G x)/\ts.length=n/\p<=p'/\p'<=2000/\l'.length<=l.length
 |0,p,l,ts,p',l',h,hp,hl=>by
  simp only [zci,Option.some.injEq,Prod.mk.injEq]at h;obtain⟨⟨rfl,rfl⟩,rfl⟩:=h;exact⟨fun x hx=>absurd hx (by simp),rfl,zzL _,hp,zzL _⟩
 |n+1,p,l,ts,p',l',h,hp,hl=>by
  unfold zci at h;obtain⟨x,hx,h⟩:=zzO.1 h;obtain⟨y,hy,h⟩:=zzO.1 h;simp only [zzX0]at h;obtain⟨⟨rfl,rfl⟩,rfl⟩:=h;have e1:=H p l x.1.1 x.1.2 x.2 hx hp hl;have e2:=zjv H n x.1.2 x.2 y.1.1 y.1.2 y.2 hy e1.2.2.1 (by omega);refine⟨fun z hz=>?_,by rw [zzq18,e2.2.1],by omega,by omega,by omega⟩;rcases List.mem_cons.1 hz with rfl|hz
  ·exact e1.1
  ·exact e2.1 z hz
theorem zjs {G:Tm->Prop} {T:Nat->List UInt8->Option ((Tm × Nat) × List UInt8)} (H:zhz G T) {n p:Nat} {l:List UInt8} {ts:List Tm} {p':Nat} {l':List UInt8} (h:zcc T n p l=some ((ts,p'),l')) (hp:p<=2000) (hl:l.length<=maxLen):
  (∀x∈ts,G x)/\ts.length<=2000/\p<=p'/\p'<=2000/\l'.length<=l.length:=by
 unfold zcc at h;split at h
 ·next c=>have:=zjv H n p l ts p' l' h hp hl;exact⟨this.1,by omega,this.2.2⟩
 ·exact zz83
theorem zfI {k int gen:Int} {name func:ByteArray} {arity:Int} {items:List Tm} {bytes:ByteArray} {bits:Int} (h1:I64 k) (h2:I64 int) (h3:I64 gen) (h4:name.size<=maxLen) (h5:func.size<=maxLen) (h6:I64 arity) (h7:items.length<=maxLen) (h8:bytes.size<=maxLen) (h9:I64 bits):(tmK k int gen name func arity items bytes bits).Ok:=
 ⟨h1,h2,h3,h4,h5,h6,h7,h8,h9⟩
theorem zmP {G:Tm->Prop} {p:Nat} {l:List UInt8} {t:Tm} {p':Nat} {l':List UInt8} (h:ze7 p l=some ((t,p'),l')):(t.Ok/\ ∀x∈t.items,G x)/\p'=p/\l'.length<=l.length:=by
 unfold ze7 at h;obtain⟨x,hx,h⟩:=zzO.1 h;obtain⟨y,hy,h⟩:=zzO.1 h;obtain⟨z,hz,h⟩:=zzO.1 h;split at h
 ·obtain⟨q,hq,h⟩:=zzO.1 h
  simp only [zzX0]at h;obtain⟨⟨rfl,rfl⟩,rfl⟩:=h;have e1:=zfv (b:=x.1) (l2:=x.2) hx;have e2:=zfv (b:=y.1) (l2:=y.2) hy;have e3:=zbZ (n:=z.1) (l2:=z.2) hz;have e4:=zbZ (n:=q.1) (l2:=q.2) hq;refine⟨⟨zfI (by unfold I64;omega) (by unfold I64;omega) (by unfold I64;omega) (by unfold maxLen;omega) (by unfold maxLen;omega) (by unfold I64;omega) (zzZ _) (zzZ _) (by unfold I64;omega),fun x hx=>absurd hx (by simp [tmK,Tm.items])⟩,rfl,by omega⟩
 ·exact zz83
theorem zlH {G:Tm->Prop} {T:Nat->List UInt8->Option ((Tm × Nat) × List UInt8)} (H:zhz G T) {p:Nat} {l:List UInt8} {t:Tm} {p':Nat} {l':List UInt8} (h:zeA T p l=some ((t,p'),l')) (hp:p<=2000) (hl:l.length<=maxLen):(t.Ok/\ ∀x∈t.items,G x)/\p<=p'/\p'<=2000/\l'.length<=l.length:=by
 unfold zeA at h;obtain⟨a,ha,h⟩:=zzO.1 h;obtain⟨b,hb,h⟩:=zzO.1 h;obtain⟨c,hc,h⟩:=zzO.1 h;obtain⟨d,hd,h⟩:=zzO.1 h;obtain⟨e,he,h⟩:=zzO.1 h;obtain⟨q,hq,h⟩:=zzO.1 h;simp only [zzX0]at h;obtain⟨⟨rfl,rfl⟩,rfl⟩:=h;have e1:=zbZ (n:=a.1) (l2:=a.2) ha;have e2:=zcy (n:=b.1) (l2:=b.2) hb;have e3:=zbZ (n:=c.1) (l2:=c.2) hc;have e4:=zfv (b:=d.1) (l2:=d.2) hd;have e5:=zcy (n:=e.1) (l2:=e.2) he;have e6:=zjs H (ts:=q.1.1) (p':=q.1.2) (l':=q.2) hq hp (by omega);rw [show(256:Nat)^2=65536 from rfl]at e2;rw [show(256:Nat)^4=4294967296 from rfl]at e5;exact⟨⟨zfI (by unfold I64;omega) (by unfold I64;omega) (by unfold I64;omega) (by unfold maxLen;omega) (zzZ _) (by unfold I64;omega) (by unfold maxLen;omega) (zzZ _) (by unfold I64;omega),e6.1⟩,e6.2.2.1,e6.2.2.2.1,by omega⟩
theorem zsG {G:Tm->Prop} {T:Nat->List UInt8->Option ((Tm × Nat) × List UInt8)} (H:zhz G T) {p:Nat} {l:List UInt8} {t:Tm} {p':Nat} {l':List UInt8} (h:zc0 T p l=some ((t,p'),l')) (hp:p<=2000) (hl:l.length<=maxLen):(t.Ok/\ ∀x∈t.items,G x)/\p<=p'/\p'<=2000/\l'.length<=l.length:=by
 unfold zc0 at h;obtain⟨x,hx,h⟩:=zzO.1 h;have e1:=zbZ (n:=x.1) (l2:=x.2) hx;split at h
 ·have:=zmP (G:=G) h;exact⟨this.1,by omega,by omega,by omega⟩
 split at h
 ·have:=zlH H h hp (by omega);exact⟨this.1,this.2.1,this.2.2.1,by omega⟩
 ·exact zz83
theorem ztZ {n:Nat} (h:n<4294967296):I64 (zcg n):=by unfold zcg I64;split<;>omega
theorem zsY {G:Tm->Prop} {T:Nat->List UInt8->Option ((Tm × Nat) × List UInt8)} (H:zhz G T) {p tag:Nat} {l0 l:List UInt8} {t:Tm} {p':Nat} {l':List UInt8} (h:zda T p l0 tag l=some ((t,p'),l')) (hp:p<=2000) (hl0:l0.length<=maxLen) (hl:l.length<=l0.length):
  (t.Ok/\ ∀x∈t.items,G x)/\p<=p'/\p'<=2000/\l'.length<=l0.length:=by
 have h256:(256:Nat)^4=4294967296:=rfl;have no: ∀x∈([]:List Tm),G x:=fun x hx=>absurd hx (by simp)
 unfold zda at h;by_cases c:tag=97
 ·rw [if_pos c]at h
  obtain⟨x,hx,h⟩:=zzO.1 h;simp only [zzX0]at h;obtain⟨⟨rfl,rfl⟩,rfl⟩:=h;have e1:=zbZ (n:=x.1) (l2:=x.2) hx;exact zz92
 rw [if_neg c]at h;clear c;by_cases c:tag=98
 ·rw [if_pos c]at h
  obtain⟨x,hx,h⟩:=zzO.1 h;have e1:=zcy (n:=x.1) (l2:=x.2) hx;split at h
  ·simp only [zzX0]at h
   obtain⟨⟨rfl,rfl⟩,rfl⟩:=h;exact⟨⟨zfI (by unfold I64;omega) (ztZ (by omega)) (by unfold I64;omega) (zzZ _) (zzZ _) (by unfold I64;omega) (zzZ _) (zzZ _) (by unfold I64;omega),no⟩,zzL _,hp,by omega⟩
  ·exact zz83
 rw [if_neg c]at h;clear c;by_cases c:tag=110
 ·rw [if_pos c]at h
  obtain⟨x,hx,h⟩:=zzO.1 h;simp only [zzX0]at h;obtain⟨⟨rfl,rfl⟩,rfl⟩:=h;have e1:=znQ (n:=x.1) (l2:=x.2) hx;exact⟨⟨zfI (by unfold I64;omega) e1.1 (by unfold I64;omega) (zzZ _) (zzZ _) (by unfold I64;omega) (zzZ _) (zzZ _) (by unfold I64;omega),no⟩,zzL _,hp,by omega⟩
 rw [if_neg c]at h;clear c;by_cases c:tag=119
 ·rw [if_pos c]at h
  obtain⟨x,hx,h⟩:=zzO.1 h;obtain⟨y,hy,h⟩:=zzO.1 h;simp only [zzX0]at h;obtain⟨⟨rfl,rfl⟩,rfl⟩:=h;have e1:=zbZ (n:=x.1) (l2:=x.2) hx;have e2:=zfW (b:=y.1) (l2:=y.2) hy;exact⟨⟨zfI (by unfold I64;omega) (by unfold I64;omega) (by unfold I64;omega) (by unfold maxLen;omega) (zzZ _) (by unfold I64;omega) (zzZ _) (zzZ _) (by unfold I64;omega),no⟩,zzL _,hp,by omega⟩
 rw [if_neg c]at h;clear c;by_cases c:tag=104
 ·rw [if_pos c]at h
  obtain⟨x,hx,h⟩:=zzO.1 h;obtain⟨y,hy,h⟩:=zzO.1 h;simp only [zzX0]at h;obtain⟨⟨rfl,rfl⟩,rfl⟩:=h;have e1:=zbZ (n:=x.1) (l2:=x.2) hx;exact zz91
 rw [if_neg c]at h;clear c;by_cases c:tag=106
 ·rw [if_pos c]at h
  simp only [zzX0]at h;obtain⟨⟨rfl,rfl⟩,rfl⟩:=h;exact zz92
 rw [if_neg c]at h;clear c;by_cases c:tag=108
 ·rw [if_pos c]at h
  obtain⟨x,hx,h⟩:=zzO.1 h;obtain⟨y,hy,h⟩:=zzO.1 h;simp only [zzX0]at h;obtain⟨⟨rfl,rfl⟩,rfl⟩:=h;have e1:=zcy (n:=x.1) (l2:=x.2) hx;exact zz91
 rw [if_neg c]at h;clear c;by_cases c:tag=109
 ·rw [if_pos c]at h
  obtain⟨x,hx,h⟩:=zzO.1 h;obtain⟨y,hy,h⟩:=zzO.1 h;simp only [zzX0]at h;obtain⟨⟨rfl,rfl⟩,rfl⟩:=h;have e1:=zcy (n:=x.1) (l2:=x.2) hx;have e2:=zfW (b:=y.1) (l2:=y.2) hy;exact zz93
 rw [if_neg c]at h;clear c;by_cases c:tag=77
 ·rw [if_pos c]at h
  obtain⟨x,hx,h⟩:=zzO.1 h;obtain⟨y,hy,h⟩:=zzO.1 h;split at h
  ·obtain⟨z,hz,h⟩:=zzO.1 h
   simp only [zzX0]at h;obtain⟨⟨rfl,rfl⟩,rfl⟩:=h;have e1:=zcy (n:=x.1) (l2:=x.2) hx;have e2:=zbZ (n:=y.1) (l2:=y.2) hy;have e3:=zfW (b:=z.1) (l2:=z.2) hz;exact zz93
  ·exact zz83
 rw [if_neg c]at h;clear c;by_cases c:tag=88
 ·rw [if_pos c]at h
  obtain⟨x,hx,h⟩:=zzO.1 h;obtain⟨y,hy,h⟩:=zzO.1 h;obtain⟨z,hz,h⟩:=zzO.1 h;split at h
  ·obtain⟨q,hq,h⟩:=zzO.1 h
   simp only [zzX0]at h;obtain⟨⟨rfl,rfl⟩,rfl⟩:=h;have e1:=zfv (b:=x.1) (l2:=x.2) hx;have e2:=zcy (n:=y.1) (l2:=y.2) hy;exact zz90
  ·exact zz83
 rw [if_neg c]at h;clear c;by_cases c:tag=90
 ·rw [if_pos c]at h
  obtain⟨x,hx,h⟩:=zzO.1 h;split at h
  ·obtain⟨y,hy,h⟩:=zzO.1 h
   obtain⟨z,hz,h⟩:=zzO.1 h;obtain⟨q,hq,h⟩:=zzO.1 h;simp only [zzX0]at h;obtain⟨⟨rfl,rfl⟩,rfl⟩:=h;have e1:=zcy (n:=x.1) (l2:=x.2) hx;have e2:=zfv (b:=y.1) (l2:=y.2) hy;exact zz90
  ·exact zz83
 rw [if_neg c]at h;clear c;exact zsG H h hp hl0
theorem zfS: ∀(f:Nat),zhz (OkF f) (zy f)
 |0,p,l,t,p',l',h,_,_=>absurd h (by simp [zy])
 |f+1,p,l,t,p',l',h,hp,hl=>by
  unfold zy at h;split at h
  ·next c=>
   obtain⟨x,hx,h⟩:=zzO.1 h;have e1:=zbZ (n:=x.1) (l2:=x.2) hx;have:=zsY (zfS f) h c hl e1.2;exact⟨this.1,by omega,this.2.2⟩
  ·exact zz83
def SlIn {α:Type} (w:World) (P:Nat->Prop) (size:Nat) (R:List Value->α->Prop) (ao:Option Addr) (l:List α):Prop:=
 l= []\/ ∃b off,ao=some ⟨b,off,none⟩/\P b/\b<w.heap.size/\ ∀j (h:j<l.length),∃cs:List Value,cs.length=size/\(∀i,i<size->w.cell? ⟨b,off+j*size+i,none⟩=cs[i]?)/\R cs l[j]
theorem SlIn.at {α:Type} {w:World} {P:Nat->Prop} {size:Nat} {R R':List Value->α->Prop} {ao:zzA} {l:List α} (h:SlIn w P size R ao l) (hR: ∀j (h:j<l.length) cs,R cs l[j]->R' cs l[j]):SlAt w size R' ao l:=by
 rcases h with h|⟨b,off,e,-,hB,hx⟩
 ·exact .inl h
 ·exact .inr ⟨b,off,e,hB,fun j hj=>(hx j hj).elim fun cs ⟨a,c,d⟩=>⟨cs,a,c,hR j hj _ d⟩⟩
theorem SlIn.kept {α:Type} {w w':World} {P P':Nat->Prop} {size:Nat} {R R':List Value->α->Prop} {ao:zzA} {l:List α} (h:SlIn w P size R ao l) (hs:w.heap.size<=w'.heap.size)
  (hk: ∀b,P b->b<w.heap.size->w'.heap[b]?=w.heap[b]?) (hP: ∀b,P b->b<w.heap.size->P' b) (hR: ∀cs a,R cs a->R' cs a):SlIn w' P' size R' ao l:=by
 rcases h with h|⟨b,off,e,hb,hB,hx⟩
 ·exact .inl h
 ·refine .inr ⟨b,off,e,hP b hb hB,zzW hB hs,fun j hj=>?_⟩
  obtain⟨cs,hlen,hc,hR'⟩:=hx j hj;exact⟨cs,hlen,fun i hi=>(show w'.cell? ⟨b,off+j*size+i,none⟩=w.cell? ⟨b,off+j*size+i,none⟩by unfold World.cell?;rw [hk b hb hB]).trans (hc i hi),hR _ _ hR'⟩
def TmIn (w:World) (P:Nat->Prop):Nat->List Value->Tm->Prop
 |0,_,_=>False
 |f+1,cs,t=> ∃ao c,cs= [.int .i64 t.kind,.int .i64 t.int,.int .i64 t.gen,.string t.name,.string t.func,.int .i64 t.arity,.slice ao t.items.length c,.string t.bytes,.int .i64 t.bits]/\SlIn w P 9 (TmIn w P f) ao t.items
theorem TmIn.kept {w w':World} {P P':Nat->Prop} (hs:w.heap.size<=w'.heap.size) (hk: ∀b,P b->b<w.heap.size->w'.heap[b]?=w.heap[b]?) (hP: ∀b,P b->b<w.heap.size->P' b):
  ∀{f:Nat} {cs:List Value} {t:Tm},TmIn w P f cs t->TmIn w' P' f cs t
 |0,_,_,h=>h
 |_+1,_,_,⟨ao,c,e,h⟩=>⟨ao,c,e,h.kept hs hk hP fun _ _ h=>TmIn.kept hs hk hP h⟩
theorem TmIn.ok {w:World} {P:Nat->Prop}: ∀{f:Nat} {cs:List Value} {t:Tm},TmIn w P f cs t->OkF f t->TmAt w f cs t
 |0,_,_,h,_=>h
 |f+1,_,_,⟨ao,c,e,h⟩,ho=>⟨⟨ao,c,e,h.at fun j hj cs hx=>TmIn.ok hx (ho.2 _ (zzM hj))⟩,ho.1⟩
theorem TmIn.below {w w':World} {P:Nat->Prop} (hb:Below w.heap.size w w') {f:Nat} {cs:List Value} {t:Tm} (h:TmIn w P f cs t):TmIn w' P f cs t:=h.kept hb.size (fun b _ hl=>hb.block b hl) fun b h _=>h
theorem TmIn.len {w:World} {P:Nat->Prop} {f:Nat} {cs:List Value} {t:Tm} (h:TmIn w P f cs t):cs.length=9:=by
 cases f with
 |zero=>exact h.elim
 |succ f=>obtain⟨ao,c,e,-⟩:=h;rw [e];rfl
def RowsIn {α:Type} (size:Nat) (R:List Value->α->Prop):List Value->List α->Prop
 |xs,[]=>xs= []
 |xs,t::ts=> ∃cs ys,xs=cs++ys/\cs.length=size/\R cs t/\RowsIn size R ys ts
theorem RowsIn.mono {α:Type} {size:Nat} {R R':List Value->α->Prop} (hR: ∀cs a,R cs a->R' cs a): ∀{ts:List α} {xs:List Value},RowsIn size R xs ts->RowsIn size R' xs ts
 |[],_,h=>h
 |_::_,_,⟨cs,ys,a,b,c,d⟩=>⟨cs,ys,a,b,hR _ _ c,RowsIn.mono hR d⟩
theorem RowsIn.snoc {α:Type} {size:Nat} {R:List Value->α->Prop} {cs:List Value} {t:α} (hl:cs.length=size) (hR:R cs t): ∀{ts:List α} {xs:List Value},RowsIn size R xs ts->RowsIn size R (xs++cs) (ts++ [t])
 |[],xs,h=>⟨cs,[],by rw [show xs= []from h];simp,hl,hR,rfl⟩
 |_::_,_,⟨cs',ys,a,b,c,d⟩=>⟨cs',ys++cs,by rw [a,zzq4],b,c,RowsIn.snoc hl hR d⟩
theorem RowsIn.get {α:Type} {size:Nat} {R:List Value->α->Prop}: ∀{ts:List α} {xs:List Value},RowsIn size R xs ts-> ∀j (h:j<ts.length),∃cs:List Value,cs.length=size/\(∀i,i<size->xs[j*size+i]?=cs[i]?)/\R cs ts[j]
 |[],_,_,j,h=>absurd h (zzC _)
 |t::ts,_,⟨cs,ys,a,b,c,d⟩,0,_=>⟨cs,b,fun i hi=>by rw [a,Nat.zero_mul,Nat.zero_add,List.getElem?_append_left (by omega)],c⟩
 |t::ts,_,⟨cs,ys,a,b,c,d⟩,j+1,h=>by
  obtain⟨cs',h1,h2,h3⟩:=RowsIn.get d j (by simpa using h);refine⟨cs',h1,fun i hi=>?_,h3⟩;rw [a,List.getElem?_append_right (by rw [b,Nat.succ_mul];omega),<-h2 i hi];congr 1;rw [b,Nat.succ_mul];omega
theorem zja {α:Type} {w:World} {B size:Nat} {e:TypeId} {v:Value} {xs:List Value} {ts:List α} {R:List Value->α->Prop} (h:w.ownsRow B e size v ts.length xs) (hr:RowsIn size R xs ts): ∃ao c,v= .slice ao ts.length c/\SlIn w (B<= ·) size R ao ts:=by
 rcases h.2 with⟨rfl,h0⟩|⟨g,cap,cur,rfl,hB,hg,h1,h2,h3,h4⟩
 ·exact⟨none,0,by rw [h0],.inl (zzQ h0)⟩
 ·refine⟨_,_,rfl,.inr ⟨g,0,rfl,hB,zc hg,fun j hj=>?_⟩⟩
  obtain⟨cs,k1,k2,k3⟩:=hr.get j hj;refine⟨cs,k1,fun i hi=>?_,k3⟩;rw [Nat.zero_add,zzq2 w g _ _ _ _ hg,<-k2 i hi,<-h4,<-Array.getElem?_toList,List.getElem?_take]
  have:j*size+i<ts.length*size:=by
   have h5:(j+1)*size<=ts.length*size:=Nat.mul_le_mul_right _ hj;rw [Nat.succ_mul]at h5;omega
  rw [if_pos this]
theorem zrZ:(Tryz.prog.info? 55).map (fun i=>(i.zero,i.size,i.bytes))=some (some (.agg #[.int .i64 0,.int .i64 0,.int .i64 0,.string ⟨#[]⟩,.string ⟨#[]⟩,.int .i64 0,.slice none 0 0,.string ⟨#[]⟩,.int .i64 0]),9,112):=by kernel_rfl
structure AccAt (B:Nat) (f:Nat) (v:Value) (ts:List Tm) (w:World):Prop where
 own: ∃xs,w.ownsRow B 55 9 v ts.length xs/\RowsIn 9 (TmIn w (fun b=>B<=b/\v.ownBlock≠some b) f) xs ts
theorem AccAt.nil (B f:Nat) (w:World):AccAt B f (.slice none 0 0) [] w:=⟨⟨[],World.ownsRow_nil _ _ _ _,rfl⟩⟩
theorem AccAt.grown {B f r:Nat} {v:Value} {ts:List Tm} {w w':World} (h:AccAt B f v ts w) (hg:w.grownBy w' (some r)) (hr:r<B):AccAt B f v ts w':=by
 obtain⟨xs,ho,hR⟩:=h.own;exact⟨xs,ho.kept hg (.inr fun e=>by have:=(ho.lt r e).1;omega),hR.mono fun _ _ h=>h.kept hg.size (fun b hb hl=>hg.block b hl fun e=>by have:=zzf e;omega) fun b hb _=>hb⟩
theorem AccAt.below {B f:Nat} {v:Value} {ts:List Tm} {w w':World} (h:AccAt B f v ts w) (hb:Below w.heap.size w w'):AccAt B f v ts w':=by
 obtain⟨xs,ho,hR⟩:=h.own;exact⟨xs,ho.kept (zbr hb none) (by cases v.ownBlock<;>simp),hR.mono fun _ _ h=>h.below hb⟩
theorem AccAt.sl {B f:Nat} {v:Value} {ts:List Tm} {w:World} (h:AccAt B f v ts w): ∃ao c,v= .slice ao ts.length c/\SlIn w (B<= ·) 9 (TmIn w (B<= ·) f) ao ts:=by
 obtain⟨xs,ho,hR⟩:=h.own;exact zja ho (hR.mono fun _ _ h=>h.kept (zzL _) (fun _ _ _=>rfl) fun b hb _=>hb.1)
theorem AccAt.app {B f:Nat} {v v':Value} {ts:List Tm} {w0 w w':World} {xs cs:List Value} {t:Tm} (h0:AccAt B f v ts w0) (hlt: ∀k,v.ownBlock=some k->k<w0.heap.size) (ho:w.ownsRow B 55 9 v ts.length xs) (hR:RowsIn 9 (TmIn w (fun b=>B<=b/\v.ownBlock≠some b) f) xs ts)
  (ht:TmIn w (w0.heap.size<= ·) f cs t) (hB:B<=w0.heap.size) (hg:w.grownBy w' v.ownBlock) (hat: ∀k,v'.ownBlock=some k->v.ownBlock=some k\/w.heap.size<=k) (ho':w'.ownsRow B 55 9 v' (ts.length+1) (xs++cs)):AccAt B f v' (ts++ [t]) w':=by
 have hne: ∀b,v.ownBlock≠some b->b<w.heap.size->v'.ownBlock≠some b:=fun b h1 h2 e=>by
  rcases hat b e with h|h
  ·exact h1 h
  ·omega
 refine⟨xs++cs,by rw [zzq1];exact ho',RowsIn.snoc ht.len (ht.kept hg.size (fun b hb hl=>hg.block b hl fun e=>by have:=hlt b e.symm;omega) fun b hb hl=>⟨zzY hB hb,hne b (fun e=>by have:=hlt b e;omega) hl⟩) (hR.mono fun _ _ h=>h.kept hg.size (fun b hb hl=>hg.block b hl fun e=>hb.2 e.symm) fun b hb hl=>⟨hb.1,hne b hb.2 hl⟩)⟩
def tmL (t:Tm) (so:Option Addr) (c:Nat):List Value:=[.int .i64 t.kind,.int .i64 t.int,.int .i64 t.gen,.string t.name,.string t.func,.int .i64 t.arity,.slice so t.items.length c,.string t.bytes,.int .i64 t.bits]
def zbv (r:Nat) (s:ByteArray) (f:Nat) (w:World) (d:Option ((Tm × Nat) × List UInt8)) (e:Ending) (w':World):Prop:=
 match d with
 |none=>e=refused/\w.grownBy w' (some r)
 |some ((t,p),l)=>(∃so c,e= .returned (.agg #[.int .i64 t.kind,.int .i64 t.int,.int .i64 t.gen,.string t.name,.string t.func,.int .i64 t.arity,.slice so t.items.length c,.string t.bytes,.int .i64 t.bits])/\TmIn w' (w.heap.size<= ·) f (tmL t so c) t)/\RdL r s l p w'/\w.grownBy w' (some r)
def zpE (r:Nat) (s:ByteArray) (f:Nat) (w:World) (d:Option ((List Tm × Nat) × List UInt8)) (e:Ending) (w':World):Prop:=
 match d with
 |none=>e=refused/\w.grownBy w' (some r)
 |some ((ts,p),l)=>(∃so c,e= .returned (.slice so ts.length c)/\SlIn w' (w.heap.size<= ·) 9 (TmIn w' (w.heap.size<= ·) f) so ts)/\RdL r s l p w'/\w.grownBy w' (some r)
def zm2 (f:Nat):Prop:= ∀(r:Nat) (s:ByteArray) (l:List UInt8) (p:Nat) (w:World),RdL r s l p w->p<=2000->2000<=p+f ->
 Calls Tryz.prog 151 #[.pointer (some ⟨r,0,none⟩)] w (zbv r s f w (zy f p l))
def zgn (f:Nat):Prop:= ∀(r:Nat) (s:ByteArray) (l:List UInt8) (p n:Nat) (w:World),RdL r s l p w->p<=2000->2000<=p+f->n<=1099511627776 ->
 Calls Tryz.prog 178 #[.pointer (some ⟨r,0,none⟩),.int .i64 n] w (zpE r s f w (zcc (zy f) n p l))
theorem RdL.grown_new {r:Nat} {s:ByteArray} {l:List UInt8} {p:Nat} {w:World} (h:RdL r s l p w) (o:Obj):RdL r s l p (w.alloc o):=h.below (zzE _ _)
theorem RdL.len {r:Nat} {s:ByteArray} {l:List UInt8} {p:Nat} {w:World} (h:RdL r s l p w):l.length<=maxLen:=by
 obtain⟨a,h1,h2,h3,h4⟩:=h;have:=zfb h2 h3;unfold maxLen;omega
theorem zhG (T:Nat->List UInt8->Option ((Tm × Nat) × List UInt8)) (n p:Nat) (l:List UInt8):zci T (n+1) p l=(T p l).bind fun x=>(zci T n x.1.2 x.2).bind fun y=>some ((x.1.1::y.1.1,y.1.2),y.2):=rfl
theorem zc3 {a b c:World} {r:Nat} {o:Option Nat} (h:a.grownBy b (some r)) (h':b.grownBy c o) (ho: ∀k,o=some k->a.heap.size<=k):a.grownBy c (some r):=
 ⟨h'.os.trans h.os,h'.tape.trans h.tape,h'.output.trans h.output,zzY h.size h'.size,fun k hk hn=>(h'.block k (zzW hk h.size) (fun e=>by have:=ho k e.symm;omega)).trans (h.block k hk hn)⟩
theorem zil (f:Nat) (HT:zm2 f):zgn f:=by
 intro r s l0 p0 n w h hp hpf hn;generalize hQ:zpE r s f w (zcc (zy f) n p0 l0)=Q at *;have HQ:=zzH hQ;clear hQ;have HTT:=zzH HT;clear HT;by_cases c:n<=2000
 case neg=>
  have hle:decide ((n:Int)<=2000)=false:=zzD (by omega);have HD:Hid (zcc (zy f) n p0 l0=none):=zzH (if_neg c);go_in;go_wp2_with (go_at_call 152;refine(zco _ _).mono ?_;rintro e w1 ⟨rfl,rfl⟩);exact zz94
 have hle:decide ((n:Int)<=2000)=true:=zzT (by omega);have HD:Hid (zcc (zy f) n p0 l0=zci (zy f) n p0 l0):=zzH (if_pos c);have hrw:=h.lt;go_in;go_wp2_with (go_at_call 152;refine(zW _ _).mono ?_;rintro e w1 ⟨rfl,rfl⟩);clear hle;go_loopw [1,5] (fun nv lv wr=> ∃(k p:Nat) (l:List UInt8) (ts:List Tm),nv= .int .i64 k/\k+ts.length=n/\p<=2000/\2000<=p+f/\Hid (zci (zy f) n p0 l0=(zci (zy f) k p l).bind fun y=>some ((ts++y.1.1,y.1.2),y.2))/\RdL r s l p wr/\AccAt w.heap.size f lv ts wr/\w.grownBy wr (some r)) (fun nv _ _=>(intOf nv).toNat)
 case atStart=>exact⟨n,p0,l0,[],rfl,rfl,hp,hpf,zzH (by cases zci (zy f) n p0 l0<;>rfl),h,AccAt.nil _ _ _,zcP _ _⟩
 case round=>
  obtain⟨k,p,l,ts,rfl,hk,hp1,hp2,HI,hrd,hacc,hg⟩:=hrel
  cases k with
  |zero=>
   obtain⟨ao,cap,rfl,hsl⟩:=hacc.sl;have HS:=zzH hsl;clear hsl;go_wp2_with fail;rw [<-HQ.out,HD.out,HI.out];exact⟨⟨_,_,by rw [List.append_nil],by rw [List.append_nil];exact HS.out⟩,hrd,hg⟩
  |succ k=>
   obtain⟨ao,cap0,rfl,-⟩:=hacc.sl;have hpos:((k+1:Nat):Int)>0:=by omega
   have HT:=HTT.out r s l p wr hrd hp1 hp2;rcases h1:zy f p l with _|⟨⟨t,p2⟩,l2⟩
   ·rw [h1]at HT
    go_wp2_with (go_at_call 151;refine HT.mono ?_;rintro e w1 ⟨rfl,hg1⟩);exact⟨rfl,by rw [<-HQ.out,HD.out,HI.out,zhG,h1];exact⟨rfl,zk hg hg1⟩⟩
   rw [h1]at HT;have hok:=zfS f p l t p2 l2 h1 hp1 hrd.len;obtain⟨i0,hi,hz0,hz1,hz2⟩:=info_parts zrZ
   go_wp2_with (first
    |(go_at_call 151;refine HT.mono ?_;rintro e w1 ⟨⟨so,c,rfl,htm⟩,hr1,hg1⟩;obtain⟨xs,ho,hR⟩:=((hacc.grown hg1 hrw).below ((zzR _ _).alloc (zzL _) (.cells #[.int .i64 t.kind,.int .i64 t.int,.int .i64 t.gen,.string t.name,.string t.func,.int .i64 t.arity,.slice so t.items.length c,.string t.bytes,.int .i64 t.bits] 55))).own)
    |(at_builtin;refine wpList_append_lies _ rfl (.tmp 14) (.tmp 17) 22 rfl w.heap.size 55 i0 _ 9 112 Tryz.underlying22 hi hz0 hz1 hz2 rfl (by decide) _ ts.length xs rfl ho ⟨w1.heap.size,0,none⟩ 1 1 (tmL t so c) rfl rfl (World.news_of_block (zzF _ _)) (by simp [tmL,Value.oneCell']) (by decide) (by unfold maxLen;omega) (by omega) (by have:=hg.size;have:=hg1.size;simp;omega) _ rfl ?_;intro g cap w2 ho2 hg2 hat hlt))
   have ho0: ∀k,(Value.slice ao ts.length cap0).ownBlock=some k->w.heap.size<=k/\k<wr.heap.size:=by
    exact zz95
   have hb1:=(zzR w1.heap.size w1).alloc (zzL _) (.cells #[.int .i64 t.kind,.int .i64 t.int,.int .i64 t.gen,.string t.name,.string t.func,.int .i64 t.arity,.slice so t.items.length c,.string t.bytes,.int .i64 t.bits] 55)
   have hacc2:AccAt w.heap.size f (.slice (some ⟨g,0,none⟩) (ts.length+1) cap) (ts++ [t]) w2:=
    hacc.app (fun k e=>(ho0 k e).2) ho hR (htm.below hb1) hg.size hg2 (fun k e=>by
     have e:g=k:=zzf e;subst e;exact hat.imp id fun h=>Nat.le_of_eq h.symm) ho2
   have hr2:RdL r s l2 p2 w2:=by
    obtain⟨a,h1,h2⟩:=hr1.below hb1;exact⟨a,(hg2.block r h1.lt fun e=>by have:=(ho0 r e.symm).1;omega).trans h1,h2⟩
   have hgw:w.grownBy w2 (some r):=zc3 (zbb (zk hg hg1) (hb1.mono (zzY hg.size hg1.size))) hg2 (fun k e=>(ho0 k e).1);go_wp2_with fail;go_roundw
   case rel=>exact⟨k,p2,l2,ts++ [t],by go_num,by rw [zzq1];simp;omega,hok.2.2.1,by omega,zzH (by
    rw [HI.out,zhG,h1,zzq0]
    cases zci (zy f) k p2 l2 with
    |none=>rfl
    |some y=>simp only [zzX5]),hr2,hacc2,hgw⟩
   case measure=>simp [intOf]
def OffB (X:Nat) (w w':World):Prop:=w.heap.size<=w'.heap.size/\ ∀b,b≠X->w'.heap[b]?=w.heap[b]?
theorem OffB.set (X:Nat) (w:World) (j:Nat) (v:Value):OffB X w (w.setCell ⟨X,j,none⟩ v):=
 ⟨by simp [World.setCell],fun b hb=>zzq10 _ _ _ _ (by simpa using hb)⟩
theorem OffB.trans {X:Nat} {a b c:World} (h:OffB X a b) (h':OffB X b c):OffB X a c:=⟨zzY h.1 h'.1,fun k hk=>(h'.2 k hk).trans (h.2 k hk)⟩
theorem OffB.nine (X:Nat) (wx:World) (v0 v1 v2 v3 v4 v5 v6 v7 v8:Value):
  OffB X wx (((((((((wx.setCell ⟨X,0,none⟩ v0).setCell ⟨X,1,none⟩ v1).setCell ⟨X,2,none⟩ v2).setCell ⟨X,3,none⟩ v3).setCell ⟨X,4,none⟩ v4).setCell ⟨X,5,none⟩ v5).setCell ⟨X,6,none⟩ v6).setCell ⟨X,7,none⟩ v7).setCell ⟨X,8,none⟩ v8):=
 ((((((((OffB.set X wx 0 v0).trans (OffB.set X _ 1 v1)).trans (OffB.set X _ 2 v2)).trans (OffB.set X _ 3 v3)).trans (OffB.set X _ 4 v4)).trans (OffB.set X _ 5 v5)).trans (OffB.set X _ 6 v6)).trans (OffB.set X _ 7 v7)).trans (OffB.set X _ 8 v8)
theorem SlIn.off {w w':World} {X B B' f:Nat} {ao:zzA} {ts:List Tm} (h:SlIn w (B<= ·) 9 (TmIn w (B<= ·) f) ao ts) (ho:OffB X w w') (hX:X<B) (hB:B'<=B):SlIn w' (B'<= ·) 9 (TmIn w' (B'<= ·) f) ao ts:=
 h.kept ho.1 (fun b hb _=>ho.2 b (by omega)) (fun b hb _=>zzY hB hb) fun _ _ h=>h.kept ho.1 (fun b hb _=>ho.2 b (by omega)) (fun b hb _=>zzY hB hb)
theorem StO.fin {w0:World} {r:Nat} {s:ByteArray} {l:List UInt8} {p X:Nat} {wx:World} (h:StO w0 r s l p X wx) (v0 v1 v2 v3 v4 v5 v6 v7 v8:Value):
  RdL r s l p (((((((((wx.setCell ⟨X,0,none⟩ v0).setCell ⟨X,1,none⟩ v1).setCell ⟨X,2,none⟩ v2).setCell ⟨X,3,none⟩ v3).setCell ⟨X,4,none⟩ v4).setCell ⟨X,5,none⟩ v5).setCell ⟨X,6,none⟩ v6).setCell ⟨X,7,none⟩ v7).setCell ⟨X,8,none⟩ v8) /\
  w0.grownBy (((((((((wx.setCell ⟨X,0,none⟩ v0).setCell ⟨X,1,none⟩ v1).setCell ⟨X,2,none⟩ v2).setCell ⟨X,3,none⟩ v3).setCell ⟨X,4,none⟩ v4).setCell ⟨X,5,none⟩ v5).setCell ⟨X,6,none⟩ v6).setCell ⟨X,7,none⟩ v7).setCell ⟨X,8,none⟩ v8) (some r):=by
 have hX:=h.hX;have hr:=h.hr;have hb:=zch (B:=X) (zzL X) (zzR X wx) v0 v1 v2 v3 v4 v5 v6 v7 v8;obtain⟨a,ha,hl⟩:=h.rd;refine⟨⟨a,(hb.block r (by omega)).trans ha,hl⟩,zbb h.gr ?_⟩;rw [<-hX];exact hb
theorem StO.below {w0:World} {r:Nat} {s:ByteArray} {l:List UInt8} {p X:Nat} {wx wy:World} (h:StO w0 r s l p X wx) (hb:Below wx.heap.size wx wy):StO w0 r s l p X wy:=
 ⟨h.rd.below hb,zbb h.gr (hb.mono h.gr.size),(hb.block X (zc h.x)).trans h.x,h.hr,h.hX⟩
theorem RdL.parts {r:Nat} {s:ByteArray} {l:List UInt8} {p:Nat} {w:World} (h:RdL r s l p w):w.cell? ⟨r,2,none⟩=some (.int .i64 p)/\w.frozen? ⟨r,2,none⟩=false:=by
 obtain⟨a,h,-⟩:=h;exact⟨h.cells.2.2.1,h.cells.2.2.2.2⟩
theorem RdAt.parts {r:Nat} {s:ByteArray} {a p:Nat} {w:World} (h:RdAt r s a p w):RdAt r s a (p+1) (w.setCell ⟨r,2,none⟩ (.int .i64 ((p:Int)+1))):=by
 have:=zzS w r 2 _ _ (.int .i64 ((p:Int)+1)) h;exact this.trans (by rw [show((p:Int)+1)=((p+1:Nat):Int)by omega];rfl)
theorem StO.parts {w0:World} {r:Nat} {s:ByteArray} {l:List UInt8} {p X:Nat} {wx:World} (h:StO w0 r s l p X wx):StO w0 r s l (p+1) X (wx.setCell ⟨r,2,none⟩ (.int .i64 ((p:Int)+1))):=by
 have hX:=h.hX;have hr:=h.hr;obtain⟨a,ha,hl⟩:=h.rd;exact⟨⟨a,ha.parts,hl⟩,zk h.gr (zc1 _ r 2 _),(zzq10 _ _ _ _ (by simp;omega)).trans h.x,hr,hX⟩
theorem zh5 (n:Int) (w:World):Calls Tryz.prog 174 #[.int .i64 n] w fun e w'=>e= .returned (.agg #[.int .i64 1,.int .i64 n,.int .i64 0,.string ⟨#[]⟩,.string ⟨#[]⟩,.int .i64 0,.slice none 0 0,.string ⟨#[]⟩,.int .i64 0])/\Below w.heap.size w w':=by
 exact zz96
theorem zrB (w:World):Calls Tryz.prog 179 #[] w fun e w'=>e= .returned (.agg #[.int .i64 8,.int .i64 0,.int .i64 0,.string ⟨#[]⟩,.string ⟨#[]⟩,.int .i64 0,.slice none 0 0,.string ⟨#[]⟩,.int .i64 0])/\Below w.heap.size w w':=by
 exact zz96
end Go.Proofs.YtijekmeocadkeaaGreatDoor
