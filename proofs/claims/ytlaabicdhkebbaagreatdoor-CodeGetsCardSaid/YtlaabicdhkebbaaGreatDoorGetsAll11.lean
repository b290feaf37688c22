/- part 11 -/
import Derived.Test.YtlaabicdhkebbaaGreatDoorGetsAll07
import Derived.Test.YtlaabicdhkebbaaGreatDoorGetsAll08
import Derived.Test.YtlaabicdhkebbaaGreatDoorGetsAll09
namespace Go.Proofs.YtlaabicdhkebbaaGreatDoor
open Go.RowKit
set_option linter.unusedVariables false
set_option linter.unusedSimpArgs false
set_option maxRecDepth 100000
set_option maxHeartbeats 80000000
def zcm (r:Nat) (s:ByteArray) (f:Nat) (w:World) (x:Tm × RS) (e:Ending) (w':World):Prop:=
 (∃so c,e= .returned (.agg #[.int .i64 x.1.kind,.int .i64 x.1.int,.int .i64 x.1.gen,.string x.1.name,.string x.1.func,.int .i64 x.1.arity,.slice so x.1.items.length c,.string x.1.bytes,.int .i64 x.1.bits])/\TmIn w' (w.heap.size<= ·) f (tmL x.1 so c) x.1)/\RdJ r s x.2 w'/\w.grownBy w' (some r)
def zj0 (r:Nat) (s:ByteArray) (f:Nat) (w:World) (x:List Tm × RS) (e:Ending) (w':World):Prop:=
 (∃so c,e= .returned (.slice so x.1.length c)/\SlIn w' (w.heap.size<= ·) 9 (TmIn w' (w.heap.size<= ·) f) so x.1)/\RdJ r s x.2 w'/\w.grownBy w' (some r)
def zmj (f:Nat):Prop:= ∀(r:Nat) (s:ByteArray) (σ:RS) (w:World),RdJ r s σ w->σ.bad=false->0<=σ.left->σ.left<=f->σ.left<=1000000 ->
 Calls Tryz.prog 95 #[.pointer (some ⟨r,0,none⟩)] w (zcm r s (f+1) w (zt f σ))
def ziE (f:Nat):Prop:= ∀(r:Nat) (s:ByteArray) (σ:RS) (n:Nat) (w:World),RdJ r s σ w->(σ.bad=false->0<=σ.left)->σ.left<=f->σ.left<=1000000->n<=1099511627776 ->
 Calls Tryz.prog 129 #[.pointer (some ⟨r,0,none⟩),.int .i64 n] w (zj0 r s (f+1) w (zbn (zt f) n σ))
theorem RdJ.below' {r:Nat} {s:ByteArray} {σ:RS} {w w':World} (h:RdJ r s σ w) {o:Option Nat} (hg:w.grownBy w' o) (ho:o≠some r):RdJ r s σ w':=by
 have hl:=h.lt;obtain⟨a,h1,h2⟩:=h;exact⟨a,(hg.block r hl fun e=>ho e.symm).trans h1,h2⟩
theorem zhr (T:RS->Tm × RS) (n:Nat) (σ:RS):zbn T (n+1) σ=if σ.bad=true then([],σ)else((T σ).1::(zbn T n (T σ).2).1,(zbn T n (T σ).2).2):=rfl
theorem zhs (f:Nat) (HT:zmj f) (HL: ∀σ:RS,σ.bad=false->0<=σ.left->σ.left<=(f:Int)->(zt f σ).2.left<=σ.left/\((zt f σ).2.bad=false->0<=(zt f σ).2.left)):ziE f:=by
 intro r s σ n w h hbl hl hl2 hn;generalize hQ:zj0 r s (f+1) w (zbn (zt f) n σ)=Q at *;have HQ:=zzH hQ;clear hQ;have HTT:=zzH HT;have HLL:=zzH HL;clear HT HL;have hrw:=h.lt;go_in;go_wp2_with fail;go_loopw [5,6] (fun lv iv wr=> ∃(k m:Nat) (τ:RS) (ts:List Tm),iv= .int .i64 k/\k+m=n/\Hid (ts.length=k)/\(τ.bad=false->0<=τ.left)/\τ.left<=f/\τ.left<=1000000/\Hid (zbn (zt f) n σ=(ts++(zbn (zt f) m τ).1,(zbn (zt f) m τ).2))/\RdJ r s τ wr/\AccAt w.heap.size (f+1) lv ts wr/\w.grownBy wr (some r)) (fun _ iv _=>n-(intOf iv).toNat)
 case atStart=>exact⟨0,n,σ,[],rfl,by omega,zzH rfl,hbl,hl,hl2,zzH rfl,h,AccAt.nil _ _ _,zb5 _ _⟩
 case round=>
  obtain⟨k,m,τ,ts,rfl,hk,hts,hpb,hp,hp2,HI,hrd,hacc,hg⟩:=hrel;rename World=>wr
  obtain⟨a1,c0,c1,c2,c3,f1,f2,f3⟩:=hrd.cells;have hlt:=hrd.lt
  cases m with
  |zero=>
   have hd:decide ((k:Int)<(n:Int))=false:=zzD (by omega);obtain⟨ao,cap,rfl,hsl⟩:=hacc.sl;have HS:=zzH hsl;clear hsl c0 c1 c2 f1 f2 f3;go_wp2_with fail;rw [<-HQ.out,HI.out];exact zz145
  |succ m=>
   have hd:decide ((k:Int)<(n:Int))=true:=zzT (by omega)
   cases hb:τ.bad with
   |true=>
    rw [hb]at c3;obtain⟨ao,cap,rfl,hsl⟩:=hacc.sl;have HS:=zzH hsl;clear hsl c0 c1 c2 f1 f2 f3;go_wp2_with fail;rw [<-HQ.out,HI.out,zhr,if_pos hb];exact zz145
   |false=>
    rw [hb]at c3;obtain⟨ao,cap0,rfl,-⟩:=hacc.sl;have hp0:=hpb hb;have HT:=HTT.out r s τ wr hrd hb hp0 hp hp2;have hl3:=HLL.out τ hb hp0 hp;clear hpb;rw [zhr,if_neg (by rw [hb];simp)]at HI;generalize zt f τ=x at *;obtain⟨t,τ2⟩:=x;unfold zcm at HT;simp only at HT HI hl3;obtain⟨i0,hi,hz0,hz1,hz2⟩:=info_parts zjL;clear c0 c1 c2 f1 f2 f3;have hlen:ts.length<=1099511627776:=by have:=hts.out;omega
    go_wp2_with (first
     |(go_at_call 95;refine HT.mono ?_;rintro e w1 ⟨⟨so,c,rfl,htm⟩,hr1,hg1⟩;obtain⟨xs,ho,hR⟩:=((hacc.grown hg1 hrw).below ((zzR _ _).alloc (zzL _) (.cells #[.int .i64 t.kind,.int .i64 t.int,.int .i64 t.gen,.string t.name,.string t.func,.int .i64 t.arity,.slice so t.items.length c,.string t.bytes,.int .i64 t.bits] 47))).own)
     |(at_builtin;refine wpList_append_lies _ rfl (.tmp 19) (.tmp 22) 23 rfl w.heap.size 47 i0 _ 9 112 Tryz.underlying23 hi hz0 hz1 hz2 rfl (by decide) _ ts.length xs rfl ho ⟨w1.heap.size,0,none⟩ 1 1 (tmL t so c) rfl rfl (World.news_of_block (heap_alloc_new _ _)) (by simp [tmL,Value.oneCell']) (by decide) (by unfold maxLen;omega) (by omega) (by have:=hg.size;have:=hg1.size;simp;omega) _ rfl ?_;intro g cap w2 ho2 hg2 hat hlt))
    have ho0: ∀k,(Value.slice ao ts.length cap0).ownBlock=some k->w.heap.size<=k/\k<wr.heap.size:=by
     exact zz87
    have hb1:=(zzR w1.heap.size w1).alloc (zzL _) (.cells #[.int .i64 t.kind,.int .i64 t.int,.int .i64 t.gen,.string t.name,.string t.func,.int .i64 t.arity,.slice so t.items.length c,.string t.bytes,.int .i64 t.bits] 47)
    have hacc2:AccAt w.heap.size (f+1) (.slice (some ⟨g,0,none⟩) (ts.length+1) cap) (ts++ [t]) w2:=
     hacc.app (fun k e=>(ho0 k e).2) ho hR (htm.below hb1) hg.size hg2 (fun k e=>by
      have e:g=k:=Option.some.inj e;subst e;exact hat.imp id fun h=>Nat.le_of_eq h.symm) ho2
    have hr2:RdJ r s τ2 w2:=(hr1.below hb1).below' hg2 fun e=>by have:=(ho0 r e).1;omega
    have hgw:w.grownBy w2 (some r):=zcF (zC (zh hg hg1) (hb1.mono (zzY hg.size hg1.size))) hg2 (fun k e=>(ho0 k e).1);go_wp2_with fail;go_roundw
    case rel=>exact⟨k+1,m,τ2,ts++ [t],by go_num,by omega,zzH (by rw [zzq1,hts.out];rfl),hl3.2,by omega,by omega,zzH (by rw [HI.out];simp),hr2,hacc2,hgw⟩
    case measure=>simp [intOf];omega
structure RCx (X:Nat) (t:Tm) (so:Option Addr) (c:Nat) (w wx:World):Prop where
 box:wx.heap[X]?=some (.cells #[.int .i64 t.kind,.int .i64 t.int,.int .i64 t.gen,.string t.name,.string t.func,.int .i64 t.arity,.slice so t.items.length c,.string t.bytes,.int .i64 t.bits] 47 (0,0))
 bel:Below X w wx
 ge:X<=wx.heap.size
structure RSt (X:Nat) (t:Tm) (so:Option Addr) (c:Nat) (w:World) (v:Value) (l:List UInt8) (wx:World):Prop where
 bx:RCx X t so c w wx
 own:wx.ownsRow X 5 1 v l.length (zy l)
theorem RCx.below {X:Nat} {t:Tm} {so:Option Addr} {c:Nat} {w wx wy:World} (h:RCx X t so c w wx) (hb:Below wx.heap.size wx wy):RCx X t so c w wy:=
 ⟨(hb.block X (zc h.box)).trans h.box,h.bel.trans (hb.mono h.ge),zzY h.ge hb.size⟩
theorem RSt.below {X:Nat} {t:Tm} {so:Option Addr} {c:Nat} {w wx wy:World} {v:Value} {l:List UInt8} (h:RSt X t so c w v l wx) (hb:Below wx.heap.size wx wy):RSt X t so c w v l wy:=
 ⟨h.bx.below hb,zip h.own hb⟩
theorem RSt.app {X:Nat} {t:Tm} {so:Option Addr} {c:Nat} {w wx wy:World} {v v':Value} {l l2:List UInt8} {xs:List Value} {n:Nat} (h:RSt X t so c w v l wx) (ho:wy.ownsRow X 5 1 v' n xs) (hg:wx.grownBy wy v.ownBlock) (hn:n=l.length+l2.length) (hxs:xs=zy l++zy l2):RSt X t so c w v' (l++l2) wy:=by
 subst hn;subst hxs;have hne:v.ownBlock≠some X:=zih h.own h.bx.box (by decide);refine⟨⟨(hg.block X (zc h.bx.box) (fun e=>hne e.symm)).trans h.bx.box,h.bx.bel.grown hg h.bx.ge (fun k hk=>(h.own.lt k hk).1),zzY h.bx.ge hg.size⟩,?_⟩;rw [zeJ,zzq1];exact ho
theorem RCx.lit {X:Nat} {t:Tm} {so:Option Addr} {c:Nat} {w wx:World} (h:RCx X t so c w wx) (cs:Array Value) (l:List UInt8) (n:Nat) (hn:n=l.length) (hcs:cs.toList=zy l) (hm:n<=1000):RSt X t so c w (.slice (some ⟨wx.heap.size,0,none⟩) n n) l (wx.alloc (.cells cs 5)):=by
 refine⟨h.below ((zzR _ _).alloc (zzL _) _),?_⟩;have:=ze0 (w:=wx) (B:=X) cs l n h.ge hn hcs hm
 rwa [hn]at this ⊢
theorem zgL (l:List UInt8) (cs:Array Value) (hcs:cs.toList=zy l) (w:World): ∀j u,(zy l)[j]?=some u->(w.alloc (.cells cs 5)).cell? ((⟨w.heap.size,0,none⟩:Addr).add j)=some u:=zhR l cs hcs
def zj7 (f:Nat):Prop:= ∀(t:Tm) (so:Option Addr) (c:Nat) (w:World),SlAt w 9 (TmAt w f) so t.items->t.Ok->zj (f+1) t=true->(zV (f+1) t).length<=17592186044416 ->
 Calls Tryz.prog 80 #[.agg #[.int .i64 t.kind,.int .i64 t.int,.int .i64 t.gen,.string t.name,.string t.func,.int .i64 t.arity,.slice so t.items.length c,.string t.bytes,.int .i64 t.bits]] w (zfm w (zV (f+1) t))
theorem zhL (f:Nat) (t:Tm) (h:zj (f+1) t=true):zV (f+1) t≠ []:=by
 have hfa:zcH t=true:=by unfold zj at h;rw [Bool.and_eq_true]at h;exact h.1
 have hk:okK t=true:=by unfold zcH at hfa;rw [Bool.and_eq_true]at hfa;exact hfa.1
 have hi:zb9 t.int≠ []:=by unfold zb9 zgV;split<;>(try split)<;>simp
 have hh:zH t≠ []:=by
  by_cases h1:t.kind=1∨t.kind=2∨t.kind=3∨t.kind=4∨t.kind=5∨t.kind=6∨t.kind=7∨t.kind=8∨t.kind=9∨t.kind=10
  ·rcases h1 with h1|h1|h1|h1|h1|h1|h1|h1|h1|h1<;>(unfold zH;simp [h1,hi,zN])
   split<;>simp
  ·exact absurd hk (by rw [ze3 h1];decide)
 exact fun e=>hh (List.append_eq_nil_iff.1 e).1
theorem zik (f:Nat) (IH: ∀f',f=f'+1->zj7 f'):zj7 f:=by
 intro t so c w hsl hok hform hlen;obtain⟨i0,hi,hz0,hz1,hz2⟩:=info_parts ze2;have hfa:zcH t=true/\t.items.all (zj f)=true:=by unfold zj at hform;rwa [Bool.and_eq_true]at hform
 have hokK:okK t=true:=by have:=hfa.1;unfold zcH at this;rw [Bool.and_eq_true]at this;exact this.1
 have HZI:Hid (¬(t.kind=4∨t.kind=7∨t.kind=9)->zV (f+1) t=zH t):=zzH (fun hk=>by
  have hz:zcW t=true:=by have:=hfa.1;unfold zcH at this;rw [Bool.and_eq_true]at this;exact this.2
  unfold zcW at hz;simp only [decide_eq_false hk,Bool.false_or,Bool.and_eq_true]at hz;have hz:=hz.1.1.2;unfold zL at hz;have:t.items= []:=List.eq_nil_of_length_eq_zero (of_decide_eq_true hz);show zH t++t.items.flatMap (zV f)=zH t;rw [this];simp)
 have HT:Hid (zV (f+1) t=zH t++(t.items.drop 0).flatMap (zV f)):=zzH rfl;have HTL:=zzH hlen;have hhl:=(zg9 hokK).1;obtain⟨ok0,ok1,ok2,ok3,ok4,ok5,ok6,ok7,ok8⟩:=hok;unfold maxLen at ok3 ok4 ok6 ok7
 have HREC:Hid (∀(k:Nat) (wr:World) (hlt:k<t.items.length),Below w.heap.size w wr-> ∃b2 off ai ci,so=some ⟨b2,off,none⟩/\b2<wr.heap.size/\wr.cell? ⟨b2,off+k*9,none⟩=some (.int .i64 t.items[k].kind)/\wr.cell? ⟨b2,off+k*9+1,none⟩=some (.int .i64 t.items[k].int)/\wr.cell? ⟨b2,off+k*9+2,none⟩=some (.int .i64 t.items[k].gen)/\wr.cell? ⟨b2,off+k*9+3,none⟩=some (.string t.items[k].name)/\wr.cell? ⟨b2,off+k*9+4,none⟩=some (.string t.items[k].func)/\wr.cell? ⟨b2,off+k*9+5,none⟩=some (.int .i64 t.items[k].arity)/\wr.cell? ⟨b2,off+k*9+6,none⟩=some (.slice ai t.items[k].items.length ci)/\wr.cell? ⟨b2,off+k*9+7,none⟩=some (.string t.items[k].bytes)/\wr.cell? ⟨b2,off+k*9+8,none⟩=some (.int .i64 t.items[k].bits)/\(zV f t.items[k]≠ []/\((zV f t.items[k]).length<=17592186044416->Calls Tryz.prog 80 #[.agg #[.int .i64 t.items[k].kind,.int .i64 t.items[k].int,.int .i64 t.items[k].gen,.string t.items[k].name,.string t.items[k].func,.int .i64 t.items[k].arity,.slice ai t.items[k].items.length ci,.string t.items[k].bytes,.int .i64 t.items[k].bits]] wr (zfm wr (zV f t.items[k]))))):=zzH (fun k wr hlt hb=>by
  cases f with
  |zero=>rw [hsl.zero]at hlt;exact absurd hlt (Nat.not_lt_zero _)
  |succ f=>
   obtain⟨b2,off,ai,ci,hao,hb2,q0,q1,q2,q3,q4,q5,q6,q7,q8,hit,hok2⟩:=(SlAt.tms hsl hb).tm hlt;have hf2:=List.all_eq_true.1 hfa.2 _ (List.getElem_mem hlt);exact⟨b2,off,ai,ci,hao,hb2,q0,q1,q2,q3,q4,q5,q6,q7,q8,zhL f _ hf2,fun h3=>IH f rfl _ ai ci wr hit hok2 hf2 h3⟩)
 have hbx:=zb8 w t so c;have hba:Below w.heap.size w (w.alloc (.cells (zzt t so c) 47)):=(zzR _ _).alloc (zzL _) _;have HS0:Hid (RCx w.heap.size t so c w (w.alloc (.cells (zzt t so c) 47))):=zzH ⟨hbx,hba,hba.size⟩;clear hsl hform hlen hbx hba hfa IH;unfold zfm;generalize zV (f+1) t=CE at *;go_in;go_upto_region 1 with fail;generalize w.alloc (.cells (zzt t so c) 47)=W at *;generalize hXz:w.heap.size=X at *;have HXZ:=zzH hXz;clear hXz;obtain⟨c0,c1,c2,c3,c4,c5,c6,c7,c8,cz⟩:=zf HS0.out.box;have hlx:=zc HS0.out.box;clear cz;go_upto_block 0 with fail;go_cut [3] (fun v3 wx=>Hid (RSt X t so c w v3 (zH t) wx))
 case first=>
  clear HREC HT HTL;by_cases hk:t.kind=1
  ·clear hokK
   have HE:Hid (zH t=zb9 t.int):=zzH (by unfold zH;simp [hk]);have t1:(t.kind==1)=true:=by rw [beq_iff_eq];exact hk
   have hk4: ¬(t.kind=4∨t.kind=7∨t.kind=9):=by omega
   have HCE:=zzH (HZI.out hk4);clear hk4;clear hk HZI;go_wp2_with fail;refine(zgg t.int _ ok1).mono ?_;rintro e w1 ⟨v1,rfl,ho,hb⟩;have HF:Hid (w1.ownsRow X 5 1 v1 (zH t).length (zy (zH t))/\Below X w w1):=zzH ⟨by rw [HE.out];exact zi0 ho HS0.out.ge,(HS0.out.below hb).bel⟩;exact zz163
  by_cases hk:t.kind=2
  ·have hn:zB t.name=true:=by unfold okK at hokK;simpa [hk] using hokK
   have:=zbs hn;have HE:Hid (zH t=zN t.name):=zzH (by unfold zH;simp [hk]);have t1:(t.kind==1)=false:=by rw [zzq5];omega
   have t2:(t.kind==2)=true:=by rw [beq_iff_eq];exact hk
   have hk4: ¬(t.kind=4∨t.kind=7∨t.kind=9):=by omega
   have HCE:=zzH (HZI.out hk4);clear hk4;clear hk HZI;go_wp2_with fail;refine(zdX t.name _ (zbs hn)).mono ?_;rintro e w2 ⟨v2,rfl,ho,hb⟩;have HF:Hid (w2.ownsRow X 5 1 v2 (zH t).length (zy (zH t))/\Below X w w2):=zzH ⟨by rw [HE.out];exact zi0 ho HS0.out.ge,(HS0.out.below hb).bel⟩;exact zz163
  by_cases hk:t.kind=7
  ·have hn:t.items.length<=255:=by unfold okK at hokK;simpa [hk] using hokK
   have HE:Hid (zH t= [104,UInt8.ofNat t.items.length]):=zzH (by unfold zH;simp [hk]);have t1:(t.kind==1)=false:=by rw [zzq5];omega
   have t2:(t.kind==2)=false:=by rw [zzq5];omega
   have t7:(t.kind==7)=true:=by rw [beq_iff_eq];exact hk
   clear hk HZI;have HS:=zzH (HS0.out.lit #[.int .u8 104,.int .u8 t.items.length] [104,UInt8.ofNat t.items.length] 2 rfl (by simp [zy]<;>omega) (by omega));exact zz162
  by_cases hk:t.kind=8
  ·clear hokK
   have HE:Hid (zH t= [106]):=zzH (by unfold zH;simp [hk]);have t1:(t.kind==1)=false:=by rw [zzq5];omega
   have t2:(t.kind==2)=false:=by rw [zzq5];omega
   have t7:(t.kind==7)=false:=by rw [zzq5];omega
   have t8:(t.kind==8)=true:=by rw [beq_iff_eq];exact hk
   have hk4: ¬(t.kind=4∨t.kind=7∨t.kind=9):=by omega
   have HCE:=zzH (HZI.out hk4);clear hk4;clear hk HZI;have HS:=zzH (HS0.out.lit #[.int .u8 106] [106] 1 rfl (by simp [zy]<;>omega) (by omega));go_wp2_with fail;go_ret;have HQ:=HS.out
   try simp only [zzq4]at HQ
   exact⟨_,rfl,by rw [HCE.out,HE.out,HXZ.out];exact HQ.own,by rw [HXZ.out];exact HQ.bx.bel⟩
  by_cases hk:t.kind=9
  ·have hn:2<=t.items.length:=by unfold okK at hokK;simp [hk]at hokK;exact hokK.1
   have hw1:IntKind.i64.wrap ((t.items.length:Int)-1)=(t.items.length:Int)-1:=by rw [zzq3];omega
   have HE:Hid (zH t=108::beN 4 ((t.items.length:Int)-1)):=zzH (by unfold zH;simp [hk]);have t1:(t.kind==1)=false:=by rw [zzq5];omega
   have t2:(t.kind==2)=false:=by rw [zzq5];omega
   have t7:(t.kind==7)=false:=by rw [zzq5];omega
   have t8:(t.kind==8)=false:=by rw [zzq5];omega
   have t9:(t.kind==9)=true:=by rw [beq_iff_eq];exact hk
   clear hk HZI;have HS:=zzH (HS0.out.lit #[.int .u8 108] [108] 1 rfl (by simp [zy]<;>omega) (by omega));go_wp2_with fail;refine(zck ((t.items.length:Int)-1) 4 _ (by unfold I64;omega) (by omega)).mono ?_;rintro e w3 ⟨v3,rfl,ho,hb⟩;have HS:=zzH (HS.out.below hb);obtain⟨g,cap,cur,rfl,hg1,hg2,hg3⟩:=zbH ho (by intro e;have:=congrArg List.length e;rw [zk]at this;cases this);have HN:=zzH (zbM hg2 hg3);clear ho hb hg1 hg2 hg3;go_wp2_with (at_builtin;refine wpList_append_own_at _ rfl (.tmp 29) (.tmp 34) 74 rfl X 5 i0 (.int .u8 0) 1 1 Tryz.underlying74 hi hz0 hz1 hz2 rfl (by decide) _ _ _ rfl HS.out.own ⟨g,0,none⟩ (beN 4 ((t.items.length:Int)-1)).length cap (zy (beN 4 ((t.items.length:Int)-1))) rfl (by rw [zbr];exact(Nat.mul_one _).symm) HN.out (zbC _) (by unfold maxLen;first|omega|(simp [zk,zn];done)|(simp [zk,zn];omega)) (by rw [Nat.mul_one];first|omega|(simp [zk,zn];done)|(simp [zk,zn];omega)) HS.out.bx.ge ?_);intro v' wz hown' hgrow hnil hloc;have HS:=zzH (HS.out.app (l2:=beN 4 ((t.items.length:Int)-1)) hown' hgrow (by first|rfl|(simp [zk]<;>omega)) (by first|rfl|(simp only [zzq4];rfl)));clear hown' hgrow hnil hloc;clear HN;exact zz162
  by_cases hk:t.kind=10
  ·have hn:zcz t.bytes t.bits=true:=by unfold okK at hokK;simp [hk]at hokK;exact hokK
   obtain⟨hb0,hb1,hb2⟩:=zgQ hn;have hy:t.bytes.size<=3000:=by omega
   clear hb2 hn hokK;by_cases hr:t.bits%8=0
   ·have hrb:(t.bits%8==0)=true:=by rw [beq_iff_eq];exact hr
    have HE:Hid (zH t=109::(beN 4 t.bytes.size++t.bytes.data.toList)):=zzH (by unfold zH;simp [hk,hr]);have t1:(t.kind==1)=false:=by rw [zzq5];omega
    have t2:(t.kind==2)=false:=by rw [zzq5];omega
    have t7:(t.kind==7)=false:=by rw [zzq5];omega
    have t8:(t.kind==8)=false:=by rw [zzq5];omega
    have t9:(t.kind==9)=false:=by rw [zzq5];omega
    have t10:(t.kind==10)=true:=by rw [beq_iff_eq];exact hk
    have hk4: ¬(t.kind=4∨t.kind=7∨t.kind=9):=by omega
    have HCE:=zzH (HZI.out hk4);clear hk4;clear hk HZI;have HS:=zzH (HS0.out.lit #[.int .u8 109] [109] 1 rfl (by simp [zy]<;>omega) (by omega));go_wp2_with fail;refine(zck (t.bytes.size:Int) 4 _ (by unfold I64;omega) (by omega)).mono ?_;rintro e w4 ⟨v4,rfl,ho,hb⟩;have HS:=zzH (HS.out.below hb);obtain⟨g,cap,cur,rfl,hg1,hg2,hg3⟩:=zbH ho (by intro e;have:=congrArg List.length e;rw [zk]at this;cases this);have HN:=zzH (zbM hg2 hg3);clear ho hb hg1 hg2 hg3;go_wp2_with (at_builtin;refine wpList_append_own_at _ rfl (.tmp 42) (.tmp 46) 74 rfl X 5 i0 (.int .u8 0) 1 1 Tryz.underlying74 hi hz0 hz1 hz2 rfl (by decide) _ _ _ rfl HS.out.own ⟨g,0,none⟩ (beN 4 (t.bytes.size:Int)).length cap (zy (beN 4 (t.bytes.size:Int))) rfl (by rw [zbr];exact(Nat.mul_one _).symm) HN.out (zbC _) (by unfold maxLen;first|omega|(simp [zk,zn];done)|(simp [zk,zn];omega)) (by rw [Nat.mul_one];first|omega|(simp [zk,zn];done)|(simp [zk,zn];omega)) HS.out.bx.ge ?_);intro v' wz hown' hgrow hnil hloc;have HS:=zzH (HS.out.app (l2:=beN 4 (t.bytes.size:Int)) hown' hgrow (by first|rfl|(simp [zk]<;>omega)) (by first|rfl|(simp only [zzq4];rfl)));clear hown' hgrow hnil hloc;clear HN;exact zz160
   ·have hrb:(t.bits%8==0)=false:=zzB.2 hr
    have HE:Hid (zH t=77::(beN 4 t.bytes.size++(UInt8.ofNat (t.bits%8).toNat::t.bytes.data.toList))):=zzH (by unfold zH;simp [hk,hr]);have t1:(t.kind==1)=false:=by rw [zzq5];omega
    have t2:(t.kind==2)=false:=by rw [zzq5];omega
    have t7:(t.kind==7)=false:=by rw [zzq5];omega
    have t8:(t.kind==8)=false:=by rw [zzq5];omega
    have t9:(t.kind==9)=false:=by rw [zzq5];omega
    have t10:(t.kind==10)=true:=by rw [beq_iff_eq];exact hk
    have hk4: ¬(t.kind=4∨t.kind=7∨t.kind=9):=by omega
    have HCE:=zzH (HZI.out hk4);clear hk4;clear hk HZI;have HS:=zzH (HS0.out.lit #[.int .u8 77] [77] 1 rfl (by simp [zy]<;>omega) (by omega));go_wp2_with fail;refine(zck (t.bytes.size:Int) 4 _ (by unfold I64;omega) (by omega)).mono ?_;rintro e w5 ⟨v5,rfl,ho,hb⟩;have HS:=zzH (HS.out.below hb);obtain⟨g,cap,cur,rfl,hg1,hg2,hg3⟩:=zbH ho (by intro e;have:=congrArg List.length e;rw [zk]at this;cases this);have HN:=zzH (zbM hg2 hg3);clear ho hb hg1 hg2 hg3;go_wp2_with (at_builtin;refine wpList_append_own_at _ rfl (.tmp 48) (.tmp 52) 74 rfl X 5 i0 (.int .u8 0) 1 1 Tryz.underlying74 hi hz0 hz1 hz2 rfl (by decide) _ _ _ rfl HS.out.own ⟨g,0,none⟩ (beN 4 (t.bytes.size:Int)).length cap (zy (beN 4 (t.bytes.size:Int))) rfl (by rw [zbr];exact(Nat.mul_one _).symm) HN.out (zbC _) (by unfold maxLen;first|omega|(simp [zk,zn];done)|(simp [zk,zn];omega)) (by rw [Nat.mul_one];first|omega|(simp [zk,zn];done)|(simp [zk,zn];omega)) HS.out.bx.ge ?_);intro v' wz hown' hgrow hnil hloc;have HS:=zzH (HS.out.app (l2:=beN 4 (t.bytes.size:Int)) hown' hgrow (by first|rfl|(simp [zk]<;>omega)) (by first|rfl|(simp only [zzq4];rfl)));clear hown' hgrow hnil hloc;clear HN;clear c0 c1 c2 c3 c4 c5 c6 c7 c8 hlx;obtain⟨c0,c1,c2,c3,c4,c5,c6,c7,c8,cz⟩:=zf HS.out.bx.box;have hlx:=zc HS.out.bx.box;clear cz;have HS1:=zzH (HS.out.below ((zzR _ _).alloc (zzL _) (.cells #[.int .u8 (t.bits%8)] 5)));go_wp2_with (at_builtin;refine wpList_append_own_at _ rfl (.tmp 54) (.tmp 59) 74 rfl X 5 i0 (.int .u8 0) 1 1 Tryz.underlying74 hi hz0 hz1 hz2 rfl (by decide) _ _ _ rfl HS1.out.own ⟨wz.heap.size,0,none⟩ 1 1 (zy ([UInt8.ofNat (t.bits%8).toNat])) rfl (by rw [zbr];exact(Nat.mul_one _).symm) (zgL _ #[.int .u8 (t.bits%8)] (by simp [zy];omega) _) (zbC _) (by unfold maxLen;first|omega|(simp [zk,zn];done)|(simp [zk,zn];omega)) (by rw [Nat.mul_one];first|omega|(simp [zk,zn];done)|(simp [zk,zn];omega)) HS1.out.bx.ge ?_);intro v' wz hown' hgrow hnil hloc;have HS:=zzH (HS1.out.app (l2:=[UInt8.ofNat (t.bits%8).toNat]) hown' hgrow (by first|rfl|(simp [zk]<;>omega)) (by first|rfl|(simp only [zzq4];rfl)));clear hown' hgrow hnil hloc;exact zz160
  by_cases hk:t.kind=6
  ·have hn:zB t.name=true:=by unfold okK at hokK;simp [hk]at hokK;exact hokK.2
   have:=zbs hn;have HE:Hid (zH t=88::(zN t.name++(beN 4 t.int++(beN 4 0++beN 4 t.gen)))):=zzH (by unfold zH;simp [hk]);have t1:(t.kind==1)=false:=by rw [zzq5];omega
   have t2:(t.kind==2)=false:=by rw [zzq5];omega
   have t7:(t.kind==7)=false:=by rw [zzq5];omega
   have t8:(t.kind==8)=false:=by rw [zzq5];omega
   have t9:(t.kind==9)=false:=by rw [zzq5];omega
   have t10:(t.kind==10)=false:=by rw [zzq5];omega
   have t6:(t.kind==6)=true:=by rw [beq_iff_eq];exact hk
   have hk4: ¬(t.kind=4∨t.kind=7∨t.kind=9):=by omega
   have HCE:=zzH (HZI.out hk4);clear hk4;clear hk HZI;have HS:=zzH (HS0.out.lit #[.int .u8 88] [88] 1 rfl (by simp [zy]<;>omega) (by omega));go_wp2_with fail;refine(zdX t.name _ (zbs hn)).mono ?_;rintro e w6 ⟨v6,rfl,ho,hb⟩;have HS:=zzH (HS.out.below hb);obtain⟨g,cap,cur,rfl,hg1,hg2,hg3⟩:=zbH ho (by unfold zN;simp);have HN:=zzH (zbM hg2 hg3);clear ho hb hg1 hg2 hg3;go_wp2_with (at_builtin;refine wpList_append_own_at _ rfl (.tmp 67) (.tmp 70) 74 rfl X 5 i0 (.int .u8 0) 1 1 Tryz.underlying74 hi hz0 hz1 hz2 rfl (by decide) _ _ _ rfl HS.out.own ⟨g,0,none⟩ (zN t.name).length cap (zy (zN t.name)) rfl (by rw [zbr];exact(Nat.mul_one _).symm) HN.out (zbC _) (by unfold maxLen;first|omega|(simp [zk,zn];done)|(simp [zk,zn];omega)) (by rw [Nat.mul_one];first|omega|(simp [zk,zn];done)|(simp [zk,zn];omega)) HS.out.bx.ge ?_);intro v' wz hown' hgrow hnil hloc;have HS:=zzH (HS.out.app (l2:=zN t.name) hown' hgrow (by first|rfl|(simp [zk]<;>omega)) (by first|rfl|(simp only [zzq4];rfl)));clear hown' hgrow hnil hloc;clear HN;clear c0 c1 c2 c3 c4 c5 c6 c7 c8 hlx;obtain⟨c0,c1,c2,c3,c4,c5,c6,c7,c8,cz⟩:=zf HS.out.bx.box;have hlx:=zc HS.out.bx.box;clear cz;go_wp2_with fail;refine(zck t.int 4 _ ok1 (by omega)).mono ?_;rintro e w7 ⟨v7,rfl,ho,hb⟩;have HS:=zzH (HS.out.below hb);obtain⟨g,cap,cur,rfl,hg1,hg2,hg3⟩:=zbH ho (by intro e;have:=congrArg List.length e;rw [zk]at this;cases this);have HN:=zzH (zbM hg2 hg3);clear ho hb hg1 hg2 hg3;go_wp2_with (at_builtin;refine wpList_append_own_at _ rfl (.tmp 72) (.tmp 75) 74 rfl X 5 i0 (.int .u8 0) 1 1 Tryz.underlying74 hi hz0 hz1 hz2 rfl (by decide) _ _ _ rfl HS.out.own ⟨g,0,none⟩ (beN 4 t.int).length cap (zy (beN 4 t.int)) rfl (by rw [zbr];exact(Nat.mul_one _).symm) HN.out (zbC _) (by unfold maxLen;first|omega|(simp [zk,zn];done)|(simp [zk,zn];omega)) (by rw [Nat.mul_one];first|omega|(simp [zk,zn];done)|(simp [zk,zn];omega)) HS.out.bx.ge ?_);intro v' wz hown' hgrow hnil hloc;have HS:=zzH (HS.out.app (l2:=beN 4 t.int) hown' hgrow (by first|rfl|(simp [zk]<;>omega)) (by first|rfl|(simp only [zzq4];rfl)));clear hown' hgrow hnil hloc;clear HN;clear c0 c1 c2 c3 c4 c5 c6 c7 c8 hlx;obtain⟨c0,c1,c2,c3,c4,c5,c6,c7,c8,cz⟩:=zf HS.out.bx.box;have hlx:=zc HS.out.bx.box;clear cz;have HS1:=zzH (HS.out.below ((zzR _ _).alloc (zzL _) (.cells #[.int .u8 0,.int .u8 0,.int .u8 0,.int .u8 0] 5)));go_wp2_with (at_builtin;refine wpList_append_own_at _ rfl (.tmp 77) (.tmp 78) 74 rfl X 5 i0 (.int .u8 0) 1 1 Tryz.underlying74 hi hz0 hz1 hz2 rfl (by decide) _ _ _ rfl HS1.out.own ⟨wz.heap.size,0,none⟩ 4 4 (zy (beN 4 0)) rfl (by rw [zbr];exact(Nat.mul_one _).symm) (zgL _ #[.int .u8 0,.int .u8 0,.int .u8 0,.int .u8 0] rfl _) (zbC _) (by unfold maxLen;first|omega|(simp [zk,zn];done)|(simp [zk,zn];omega)) (by rw [Nat.mul_one];first|omega|(simp [zk,zn];done)|(simp [zk,zn];omega)) HS1.out.bx.ge ?_);intro v' wz hown' hgrow hnil hloc;have HS:=zzH (HS1.out.app (l2:=beN 4 0) hown' hgrow (by first|rfl|(simp [zk]<;>omega)) (by first|rfl|(simp only [zzq4];rfl)));clear hown' hgrow hnil hloc;clear c0 c1 c2 c3 c4 c5 c6 c7 c8 hlx;obtain⟨c0,c1,c2,c3,c4,c5,c6,c7,c8,cz⟩:=zf HS.out.bx.box;have hlx:=zc HS.out.bx.box;clear cz;go_wp2_with fail;refine(zck t.gen 4 _ ok2 (by omega)).mono ?_;rintro e w8 ⟨v8,rfl,ho,hb⟩;have HS:=zzH (HS.out.below hb);obtain⟨g,cap,cur,rfl,hg1,hg2,hg3⟩:=zbH ho (by intro e;have:=congrArg List.length e;rw [zk]at this;cases this);have HN:=zzH (zbM hg2 hg3);clear ho hb hg1 hg2 hg3;go_wp2_with (at_builtin;refine wpList_append_own_at _ rfl (.tmp 80) (.tmp 83) 74 rfl X 5 i0 (.int .u8 0) 1 1 Tryz.underlying74 hi hz0 hz1 hz2 rfl (by decide) _ _ _ rfl HS.out.own ⟨g,0,none⟩ (beN 4 t.gen).length cap (zy (beN 4 t.gen)) rfl (by rw [zbr];exact(Nat.mul_one _).symm) HN.out (zbC _) (by unfold maxLen;first|omega|(simp [zk,zn];done)|(simp [zk,zn];omega)) (by rw [Nat.mul_one];first|omega|(simp [zk,zn];done)|(simp [zk,zn];omega)) HS.out.bx.ge ?_);intro v' wz hown' hgrow hnil hloc;have HS:=zzH (HS.out.app (l2:=beN 4 t.gen) hown' hgrow (by first|rfl|(simp [zk]<;>omega)) (by first|rfl|(simp only [zzq4];rfl)));exact zz161
  by_cases hk:t.kind=3
  ·have hn:zB t.name=true:=by unfold okK at hokK;simp [hk]at hokK;exact hokK.2
   have:=zbs hn;have HE:Hid (zH t=90::0::1::(zN t.name++(beN 4 t.gen++beN 4 t.int))):=zzH (by unfold zH;simp [hk]);have t1:(t.kind==1)=false:=by rw [zzq5];omega
   have t2:(t.kind==2)=false:=by rw [zzq5];omega
   have t7:(t.kind==7)=false:=by rw [zzq5];omega
   have t8:(t.kind==8)=false:=by rw [zzq5];omega
   have t9:(t.kind==9)=false:=by rw [zzq5];omega
   have t10:(t.kind==10)=false:=by rw [zzq5];omega
   have t6:(t.kind==6)=false:=by rw [zzq5];omega
   have t3:(t.kind==3)=true:=by rw [beq_iff_eq];exact hk
   have hk4: ¬(t.kind=4∨t.kind=7∨t.kind=9):=by omega
   have HCE:=zzH (HZI.out hk4);clear hk4;clear hk HZI;have HS:=zzH (HS0.out.lit #[.int .u8 90,.int .u8 0,.int .u8 1] [90,0,1] 3 rfl (by simp [zy]<;>omega) (by omega));go_wp2_with fail;refine(zdX t.name _ (zbs hn)).mono ?_;rintro e w9 ⟨v9,rfl,ho,hb⟩;have HS:=zzH (HS.out.below hb);obtain⟨g,cap,cur,rfl,hg1,hg2,hg3⟩:=zbH ho (by unfold zN;simp);have HN:=zzH (zbM hg2 hg3);clear ho hb hg1 hg2 hg3;go_wp2_with (at_builtin;refine wpList_append_own_at _ rfl (.tmp 87) (.tmp 90) 74 rfl X 5 i0 (.int .u8 0) 1 1 Tryz.underlying74 hi hz0 hz1 hz2 rfl (by decide) _ _ _ rfl HS.out.own ⟨g,0,none⟩ (zN t.name).length cap (zy (zN t.name)) rfl (by rw [zbr];exact(Nat.mul_one _).symm) HN.out (zbC _) (by unfold maxLen;first|omega|(simp [zk,zn];done)|(simp [zk,zn];omega)) (by rw [Nat.mul_one];first|omega|(simp [zk,zn];done)|(simp [zk,zn];omega)) HS.out.bx.ge ?_);intro v' wz hown' hgrow hnil hloc;have HS:=zzH (HS.out.app (l2:=zN t.name) hown' hgrow (by first|rfl|(simp [zk]<;>omega)) (by first|rfl|(simp only [zzq4];rfl)));clear hown' hgrow hnil hloc;clear HN;clear c0 c1 c2 c3 c4 c5 c6 c7 c8 hlx;obtain⟨c0,c1,c2,c3,c4,c5,c6,c7,c8,cz⟩:=zf HS.out.bx.box;have hlx:=zc HS.out.bx.box;clear cz;go_wp2_with fail;refine(zck t.gen 4 _ ok2 (by omega)).mono ?_;rintro e w10 ⟨v10,rfl,ho,hb⟩;have HS:=zzH (HS.out.below hb);obtain⟨g,cap,cur,rfl,hg1,hg2,hg3⟩:=zbH ho (by intro e;have:=congrArg List.length e;rw [zk]at this;cases this);have HN:=zzH (zbM hg2 hg3);clear ho hb hg1 hg2 hg3;go_wp2_with (at_builtin;refine wpList_append_own_at _ rfl (.tmp 92) (.tmp 95) 74 rfl X 5 i0 (.int .u8 0) 1 1 Tryz.underlying74 hi hz0 hz1 hz2 rfl (by decide) _ _ _ rfl HS.out.own ⟨g,0,none⟩ (beN 4 t.gen).length cap (zy (beN 4 t.gen)) rfl (by rw [zbr];exact(Nat.mul_one _).symm) HN.out (zbC _) (by unfold maxLen;first|omega|(simp [zk,zn];done)|(simp [zk,zn];omega)) (by rw [Nat.mul_one];first|omega|(simp [zk,zn];done)|(simp [zk,zn];omega)) HS.out.bx.ge ?_);intro v' wz hown' hgrow hnil hloc;have HS:=zzH (HS.out.app (l2:=beN 4 t.gen) hown' hgrow (by first|rfl|(simp [zk]<;>omega)) (by first|rfl|(simp only [zzq4];rfl)));clear hown' hgrow hnil hloc;clear HN;clear c0 c1 c2 c3 c4 c5 c6 c7 c8 hlx;obtain⟨c0,c1,c2,c3,c4,c5,c6,c7,c8,cz⟩:=zf HS.out.bx.box;have hlx:=zc HS.out.bx.box;clear cz;go_wp2_with fail;refine(zck t.int 4 _ ok1 (by omega)).mono ?_;rintro e w11 ⟨v11,rfl,ho,hb⟩;have HS:=zzH (HS.out.below hb);obtain⟨g,cap,cur,rfl,hg1,hg2,hg3⟩:=zbH ho (by intro e;have:=congrArg List.length e;rw [zk]at this;cases this);have HN:=zzH (zbM hg2 hg3);clear ho hb hg1 hg2 hg3;go_wp2_with (at_builtin;refine wpList_append_own_at _ rfl (.tmp 97) (.tmp 100) 74 rfl X 5 i0 (.int .u8 0) 1 1 Tryz.underlying74 hi hz0 hz1 hz2 rfl (by decide) _ _ _ rfl HS.out.own ⟨g,0,none⟩ (beN 4 t.int).length cap (zy (beN 4 t.int)) rfl (by rw [zbr];exact(Nat.mul_one _).symm) HN.out (zbC _) (by unfold maxLen;first|omega|(simp [zk,zn];done)|(simp [zk,zn];omega)) (by rw [Nat.mul_one];first|omega|(simp [zk,zn];done)|(simp [zk,zn];omega)) HS.out.bx.ge ?_);intro v' wz hown' hgrow hnil hloc;have HS:=zzH (HS.out.app (l2:=beN 4 t.int) hown' hgrow (by first|rfl|(simp [zk]<;>omega)) (by first|rfl|(simp only [zzq4];rfl)));exact zz161
  by_cases hk:t.kind=5
  ·have hn:zB t.name=true/\zB t.func=true:=by unfold okK at hokK;simp [hk]at hokK;exact hokK.1
   have:=zbs hn.1;have:=zbs hn.2;have hil:=zhM t.arity;have HE:Hid (zH t=113::(zN t.name++(zN t.func++zb9 t.arity))):=zzH (by unfold zH;simp [hk]);have t1:(t.kind==1)=false:=by rw [zzq5];omega
   have t2:(t.kind==2)=false:=by rw [zzq5];omega
   have t7:(t.kind==7)=false:=by rw [zzq5];omega
   have t8:(t.kind==8)=false:=by rw [zzq5];omega
   have t9:(t.kind==9)=false:=by rw [zzq5];omega
   have t10:(t.kind==10)=false:=by rw [zzq5];omega
   have t6:(t.kind==6)=false:=by rw [zzq5];omega
   have t3:(t.kind==3)=false:=by rw [zzq5];omega
   have t5:(t.kind==5)=true:=by rw [beq_iff_eq];exact hk
   have hk4: ¬(t.kind=4∨t.kind=7∨t.kind=9):=by omega
   have HCE:=zzH (HZI.out hk4);clear hk4;clear hk HZI;have HS:=zzH (HS0.out.lit #[.int .u8 113] [113] 1 rfl (by simp [zy]<;>omega) (by omega));go_wp2_with fail;refine(zdX t.name _ (zbs hn.1)).mono ?_;rintro e w12 ⟨v12,rfl,ho,hb⟩;have HS:=zzH (HS.out.below hb);obtain⟨g,cap,cur,rfl,hg1,hg2,hg3⟩:=zbH ho (by unfold zN;simp);have HN:=zzH (zbM hg2 hg3);clear ho hb hg1 hg2 hg3;go_wp2_with (at_builtin;refine wpList_append_own_at _ rfl (.tmp 104) (.tmp 107) 74 rfl X 5 i0 (.int .u8 0) 1 1 Tryz.underlying74 hi hz0 hz1 hz2 rfl (by decide) _ _ _ rfl HS.out.own ⟨g,0,none⟩ (zN t.name).length cap (zy (zN t.name)) rfl (by rw [zbr];exact(Nat.mul_one _).symm) HN.out (zbC _) (by unfold maxLen;first|omega|(simp [zk,zn];done)|(simp [zk,zn];omega)) (by rw [Nat.mul_one];first|omega|(simp [zk,zn];done)|(simp [zk,zn];omega)) HS.out.bx.ge ?_);intro v' wz hown' hgrow hnil hloc;have HS:=zzH (HS.out.app (l2:=zN t.name) hown' hgrow (by first|rfl|(simp [zk]<;>omega)) (by first|rfl|(simp only [zzq4];rfl)));clear hown' hgrow hnil hloc;clear HN;clear c0 c1 c2 c3 c4 c5 c6 c7 c8 hlx;obtain⟨c0,c1,c2,c3,c4,c5,c6,c7,c8,cz⟩:=zf HS.out.bx.box;have hlx:=zc HS.out.bx.box;clear cz;go_wp2_with fail;refine(zdX t.func _ (zbs hn.2)).mono ?_;rintro e w13 ⟨v13,rfl,ho,hb⟩;have HS:=zzH (HS.out.below hb);obtain⟨g,cap,cur,rfl,hg1,hg2,hg3⟩:=zbH ho (by unfold zN;simp);have HN:=zzH (zbM hg2 hg3);clear ho hb hg1 hg2 hg3;go_wp2_with (at_builtin;refine wpList_append_own_at _ rfl (.tmp 109) (.tmp 112) 74 rfl X 5 i0 (.int .u8 0) 1 1 Tryz.underlying74 hi hz0 hz1 hz2 rfl (by decide) _ _ _ rfl HS.out.own ⟨g,0,none⟩ (zN t.func).length cap (zy (zN t.func)) rfl (by rw [zbr];exact(Nat.mul_one _).symm) HN.out (zbC _) (by unfold maxLen;first|omega|(simp [zk,zn];done)|(simp [zk,zn];omega)) (by rw [Nat.mul_one];first|omega|(simp [zk,zn];done)|(simp [zk,zn];omega)) HS.out.bx.ge ?_);intro v' wz hown' hgrow hnil hloc;have HS:=zzH (HS.out.app (l2:=zN t.func) hown' hgrow (by first|rfl|(simp [zk]<;>omega)) (by first|rfl|(simp only [zzq4];rfl)));clear hown' hgrow hnil hloc;clear HN;clear c0 c1 c2 c3 c4 c5 c6 c7 c8 hlx;obtain⟨c0,c1,c2,c3,c4,c5,c6,c7,c8,cz⟩:=zf HS.out.bx.box;have hlx:=zc HS.out.bx.box;clear cz;go_wp2_with fail;refine(zgg t.arity _ ok5).mono ?_;rintro e w14 ⟨v14,rfl,ho,hb⟩;have HS:=zzH (HS.out.below hb);obtain⟨g,cap,cur,rfl,hg1,hg2,hg3⟩:=zbH ho (by unfold zb9 zgV;split<;>(try split)<;>simp);have HN:=zzH (zbM hg2 hg3);clear ho hb hg1 hg2 hg3;go_wp2_with (at_builtin;refine wpList_append_own_at _ rfl (.tmp 114) (.tmp 117) 74 rfl X 5 i0 (.int .u8 0) 1 1 Tryz.underlying74 hi hz0 hz1 hz2 rfl (by decide) _ _ _ rfl HS.out.own ⟨g,0,none⟩ (zb9 t.arity).length cap (zy (zb9 t.arity)) rfl (by rw [zbr];exact(Nat.mul_one _).symm) HN.out (zbC _) (by unfold maxLen;first|omega|(simp [zk,zn];done)|(simp [zk,zn];omega)) (by rw [Nat.mul_one];first|omega|(simp [zk,zn];done)|(simp [zk,zn];omega)) HS.out.bx.ge ?_);intro v' wz hown' hgrow hnil hloc;have HS:=zzH (HS.out.app (l2:=zb9 t.arity) hown' hgrow (by first|rfl|(simp [zk]<;>omega)) (by first|rfl|(simp only [zzq4];rfl)));exact zz161
  by_cases hk:t.kind=4
  ·have hn:wi t.arity 0 16=true/\zB t.name=true/\t.items.length<=200:=by unfold okK at hokK;simp [hk]at hokK;exact⟨hokK.1.2,hokK.1.1.2,hokK.2⟩
   have:=zbs hn.2.1;have ha:=zff hn.1;obtain⟨ha1,ha2⟩:=ha;have hi2:=hn.2.2;have hn21:=hn.2.1;clear hn hokK;have HE:Hid (zH t=112::UInt8.ofNat t.arity.toNat::(beN 2 t.int++(UInt8.ofNat t.items.length::(zN t.name++beN 4 t.gen)))):=zzH (by unfold zH;simp [hk]);have t1:(t.kind==1)=false:=by rw [zzq5];omega
   have t2:(t.kind==2)=false:=by rw [zzq5];omega
   have t7:(t.kind==7)=false:=by rw [zzq5];omega
   have t8:(t.kind==8)=false:=by rw [zzq5];omega
   have t9:(t.kind==9)=false:=by rw [zzq5];omega
   have t10:(t.kind==10)=false:=by rw [zzq5];omega
   have t6:(t.kind==6)=false:=by rw [zzq5];omega
   have t3:(t.kind==3)=false:=by rw [zzq5];omega
   have t5:(t.kind==5)=false:=by rw [zzq5];omega
   have t4:(t.kind==4)=true:=by rw [beq_iff_eq];exact hk
   clear hk HZI;go_wp2_with fail;have HSD:Hid (RCx X t so c w W.drew):=zzH (HS0.out.below (zzR _ _).drew);have HSA:Hid (RSt X t so c w (.slice (some ⟨W.heap.size,0,none⟩) 2 2) [112,UInt8.ofNat t.arity.toNat] ((W.alloc (.cells #[.int .u8 112,.int .u8 t.arity] 5)).drew)):=zzH ((HS0.out.lit #[.int .u8 112,.int .u8 t.arity] [112,UInt8.ofNat t.arity.toNat] 2 rfl (by simp [zy];omega) (by omega)).below (zzR _ _).drew);have hwa:IntKind.u8.wrap t.arity=t.arity:=by rw [IntKind.wrap_u8];omega
   have KA:Hid ((W.alloc (.cells #[.int .u8 112,.int .u8 t.arity] 5)).drew.cell? ⟨X,5,none⟩=some (.int .i64 t.arity)/\(W.alloc (.cells #[.int .u8 112,.int .u8 t.arity] 5)).drew.cell? ⟨X,1,none⟩=some (.int .i64 t.int)):=zzH ⟨(zf HSA.out.bx.box).2.2.2.2.2.1,(zf HSA.out.bx.box).2.1⟩;have HA0:Hid (0<=t.arity/\t.arity<256):=zzH ⟨by omega,by omega⟩
   first|go_region_held3 (fun w'=>w'.cell? ⟨X,5,none⟩=some (.int .i64 t.arity)/\w'.cell? ⟨X,1,none⟩=some (.int .i64 t.int)) (first|exact KD.out|exact KC.out|exact KB.out|exact KA.out|exact⟨c5,c1⟩)
    (first
     |(go_at_call 109;refine(zck t.int 2 _ ok1 (by omega)).mono ?_;rintro e w21 ⟨v21,rfl,ho,hb⟩;(first|have HSL:=zzH (HSA.out.below hb)|have HSB:=zzH (HSD.out.below hb));obtain⟨g,cap,cur,rfl,hg1,hg2,hg3⟩:=zbH ho (by intro e;have:=congrArg List.length e;rw [zk]at this;cases this);have HN:=zzH (zbM hg2 hg3);have HG:=zzH hg2;have HG3:=zzH hg3;clear ho hb hg1 hg2 hg3;(first|have KB:=zzH (And.intro (zf HSL.out.bx.box).2.2.2.2.2.1 (zf HSL.out.bx.box).2.1)|(have KB:=zzH (And.intro (zf HSB.out.box).2.2.2.2.2.1 (zf HSB.out.box).2.1);have HSL:=zzH (HSB.out.lit #[.int .u8 112,.int .u8 t.arity] [112,UInt8.ofNat t.arity.toNat] 2 rfl (by have:=HA0.out;simp [zy];omega) (by omega));have KC:=zzH (And.intro (zf HSL.out.bx.box).2.2.2.2.2.1 (zf HSL.out.bx.box).2.1);have HN:=zzH (zbM ((((zzR w21.heap.size w21).alloc (zzL _) (.cells #[.int .u8 112,.int .u8 t.arity] 5)).block g (zc HG.out)).trans HG.out) HG3.out))))
     |(refine step_append_lies _ (by rfl) (.tmp 124) (.tmp 127) 74 (by rfl) X 5 i0 (.int .u8 0) 1 1 Tryz.underlying74 hi hz0 hz1 hz2 (by rfl) (by decide) _ _ _ (by rfl) HSL.out.own ⟨g,0,none⟩ _ cap (zy (beN 2 t.int)) (by rfl) (by rw [zbr];exact(Nat.mul_one _).symm) HN.out (zbC _) (by rw [zk];omega) (by unfold maxLen;simp [zk]) (by simp [zk]) HSL.out.bx.ge _ rfl ?_;intro g2 cap2 w22 hown' hgrow hat hlt;have HS:=zzH (HSL.out.app hown' hgrow rfl rfl);have KD:=zzH (And.intro (zf HS.out.bx.box).2.2.2.2.2.1 (zf HS.out.bx.box).2.1);clear hown' hgrow hat hlt))|fail
   all_goals
    clear c0 c1 c2 c3 c4 c5 c6 c7 c8 hlx;obtain⟨c0,c1,c2,c3,c4,c5,c6,c7,c8,cz⟩:=zf HS.out.bx.box;have hlx:=zc HS.out.bx.box;clear cz;clear KA KB KD;have HS1:=zzH (HS.out.below ((zzR _ _).alloc (zzL _) (.cells #[.int .u8 t.items.length] 5)));go_wp2_with (at_builtin;refine wpList_append_own_at _ rfl (.tmp 129) (.tmp 134) 74 rfl X 5 i0 (.int .u8 0) 1 1 Tryz.underlying74 hi hz0 hz1 hz2 rfl (by decide) _ _ _ rfl HS1.out.own ⟨w22.heap.size,0,none⟩ 1 1 (zy ([UInt8.ofNat t.items.length])) rfl (by rw [zbr];exact(Nat.mul_one _).symm) (zgL _ #[.int .u8 t.items.length] (by simp [zy];omega) _) (zbC _) (by unfold maxLen;first|omega|(simp [zk,zn];done)|(simp [zk,zn];omega)) (by rw [Nat.mul_one];first|omega|(simp [zk,zn];done)|(simp [zk,zn];omega)) HS1.out.bx.ge ?_);intro v' wz hown' hgrow hnil hloc;have HS:=zzH (HS1.out.app (l2:=[UInt8.ofNat t.items.length]) hown' hgrow (by first|rfl|(simp [zk]<;>omega)) (by first|rfl|(simp only [zzq4];rfl)));clear hown' hgrow hnil hloc;clear c0 c1 c2 c3 c4 c5 c6 c7 c8 hlx;obtain⟨c0,c1,c2,c3,c4,c5,c6,c7,c8,cz⟩:=zf HS.out.bx.box;have hlx:=zc HS.out.bx.box;clear cz;go_wp2_with fail;refine(zdX t.name _ (zbs hn21)).mono ?_;rintro e w15 ⟨v15,rfl,ho,hb⟩;have HS:=zzH (HS.out.below hb);obtain⟨g,cap,cur,rfl,hg1,hg2,hg3⟩:=zbH ho (by unfold zN;simp);have HN:=zzH (zbM hg2 hg3);clear ho hb hg1 hg2 hg3;go_wp2_with (at_builtin;refine wpList_append_own_at _ rfl (.tmp 136) (.tmp 139) 74 rfl X 5 i0 (.int .u8 0) 1 1 Tryz.underlying74 hi hz0 hz1 hz2 rfl (by decide) _ _ _ rfl HS.out.own ⟨g,0,none⟩ (zN t.name).length cap (zy (zN t.name)) rfl (by rw [zbr];exact(Nat.mul_one _).symm) HN.out (zbC _) (by unfold maxLen;first|omega|(simp [zk,zn];done)|(simp [zk,zn];omega)) (by rw [Nat.mul_one];first|omega|(simp [zk,zn];done)|(simp [zk,zn];omega)) HS.out.bx.ge ?_);intro v' wz hown' hgrow hnil hloc;have HS:=zzH (HS.out.app (l2:=zN t.name) hown' hgrow (by first|rfl|(simp [zk]<;>omega)) (by first|rfl|(simp only [zzq4];rfl)));clear hown' hgrow hnil hloc;clear HN;clear c0 c1 c2 c3 c4 c5 c6 c7 c8 hlx;obtain⟨c0,c1,c2,c3,c4,c5,c6,c7,c8,cz⟩:=zf HS.out.bx.box;have hlx:=zc HS.out.bx.box;clear cz;go_wp2_with fail;refine(zck t.gen 4 _ ok2 (by omega)).mono ?_;rintro e w16 ⟨v16,rfl,ho,hb⟩;have HS:=zzH (HS.out.below hb);obtain⟨g,cap,cur,rfl,hg1,hg2,hg3⟩:=zbH ho (by intro e;have:=congrArg List.length e;rw [zk]at this;cases this);have HN:=zzH (zbM hg2 hg3);clear ho hb hg1 hg2 hg3;go_wp2_with (at_builtin;refine wpList_append_own_at _ rfl (.tmp 141) (.tmp 144) 74 rfl X 5 i0 (.int .u8 0) 1 1 Tryz.underlying74 hi hz0 hz1 hz2 rfl (by decide) _ _ _ rfl HS.out.own ⟨g,0,none⟩ (beN 4 t.gen).length cap (zy (beN 4 t.gen)) rfl (by rw [zbr];exact(Nat.mul_one _).symm) HN.out (zbC _) (by unfold maxLen;first|omega|(simp [zk,zn];done)|(simp [zk,zn];omega)) (by rw [Nat.mul_one];first|omega|(simp [zk,zn];done)|(simp [zk,zn];omega)) HS.out.bx.ge ?_);intro v' wz hown' hgrow hnil hloc;have HS:=zzH (HS.out.app (l2:=beN 4 t.gen) hown' hgrow (by first|rfl|(simp [zk]<;>omega)) (by first|rfl|(simp only [zzq4];rfl)));clear hown' hgrow hnil hloc;clear HN;go_wp2_with fail;go_meet
    case rel=>
     have HQ:=HS.out
     try simp only [zzq4]at HQ
     rw [HE.out];exact zzH HQ
  exact absurd hokK (by rw [ze3 (by omega)];decide)
 case rest=>
  rename_i v3 wx;have HS:=hcut;clear hcut;clear c0 c1 c2 c3 c4 c5 c6 c7 c8 hlx HZI hokK hhl;obtain⟨c0,c1,c2,c3,c4,c5,c6,c7,c8,cz⟩:=zf HS.out.bx.box;have hlx:=zc HS.out.bx.box;clear cz;go_wp2_with fail;go_loopw [3,4] (fun v3 iv wr=> ∃(k:Nat) (l:List UInt8),k<=t.items.length/\iv= .int .i64 k/\Hid (CE=l++(t.items.drop k).flatMap (zV f))/\Hid (RSt X t so c w v3 l wr)) (fun _ iv _=>t.items.length-(intOf iv).toNat)
  case atStart=>exact⟨0,_,zzZ _,rfl,HT,HS⟩
  case round=>
   obtain⟨k,l,hk,rfl,HV,HW⟩:=hrel;rename World=>wr
   clear c0 c1 c2 c3 c4 c5 c6 c7 c8 hlx;obtain⟨c0,c1,c2,c3,c4,c5,c6,c7,c8,cz⟩:=zf HW.out.bx.box;have hlx:=zc HW.out.bx.box;clear cz;by_cases hlt:k<t.items.length
   ·obtain⟨b2,off,ai,ci,hao,hb2,q0,q1,q2,q3,q4,q5,q6,q7,q8,hne,hcall⟩:=HREC.out k wr hlt HW.out.bx.bel
    subst hao;have HV2:Hid (CE=(l++zV f t.items[k])++(t.items.drop (k+1)).flatMap (zV f)):=zzH (by rw [HV.out,List.drop_eq_getElem_cons hlt,List.flatMap_cons,zzq4])
    have hlen2:l.length+(zV f t.items[k]).length<=17592186044416:=by
     have h1:=HTL.out;rw [HV2.out,zzq1,zzq1]at h1;omega
    have hcl:=hcall (by omega);have HCL:=zzH hcl;have HNE:=zzH hne;clear hcl hcall hne;generalize zV f t.items[k]=cx at *;generalize t.items[k]=u at *;go_wp2_with fail;refine HCL.out.mono ?_;rintro e w5 ⟨v5,rfl,ho,hb⟩;have HS:=zzH (HW.out.below hb);obtain⟨g,cap,cur,rfl,hg1,hg2,hg3⟩:=zbH ho HNE.out;have HN:=zzH (zbM hg2 hg3);clear ho hb hg1 hg2 hg3;go_wp2_with (at_builtin;refine wpList_append_own_at _ rfl (.tmp 153) (.tmp 159) 74 rfl X 5 i0 (.int .u8 0) 1 1 Tryz.underlying74 hi hz0 hz1 hz2 rfl (by decide) _ _ _ rfl HS.out.own ⟨g,0,none⟩ cx.length cap (zy (cx)) rfl (by rw [zbr];exact(Nat.mul_one _).symm) HN.out (zbC _) (by unfold maxLen;first|omega|(simp [zk,zn];done)|(simp [zk,zn];omega)) (by rw [Nat.mul_one];first|omega|(simp [zk,zn];done)|(simp [zk,zn];omega)) HS.out.bx.ge ?_);intro v' wz hown' hgrow hnil hloc;have HS:=zzH (HS.out.app (l2:=cx) hown' hgrow (by first|rfl|(simp [zk]<;>omega)) (by first|rfl|(simp only [zzq4];rfl)));clear hown' hgrow hnil hloc;go_wp2_with fail;go_roundw
    case rel=>exact⟨k+1,_,by omega,by go_num,HV2,HS⟩
    case measure=>simp [intOf];omega
   ·have HV2:Hid (CE=l):=zzH (by rw [HV.out,zzq6 (by omega)];simp)
    go_wp2_with fail;go_ret;exact⟨_,rfl,by rw [HV2.out,HXZ.out];exact HW.out.own,by rw [HXZ.out];exact HW.out.bx.bel⟩
theorem zja (f:Nat):zj7 f:=by
 induction f with
 |zero=>exact zik 0 (fun f' h=>absurd h (by omega))
 |succ f ih=>exact zik (f+1) (fun f' h=>by
   have:f'=f:=by omega
   subst this;exact ih)
theorem zlU (f:Nat) (t:Tm) (so:Option Addr) (c:Nat) (w:World) (hsl:SlAt w 9 (TmAt w f) so t.items) (hok:t.Ok) (hcap:(zR (f+1) t:Int)<=1152921504606846976) (hv:zD (f+1) t=true):
  Calls Tryz.prog 53 #[.agg (zzt t so c)] w fun e w'=>e= .returned (.tuple #[.string ⟨(zfN (f+1) t).toArray⟩,.int .i64 0])/\Below w.heap.size w w':=by
 unfold zzt;have hbx:=zb8 w t so c;have hba:Below w.heap.size w (w.alloc (.cells (zzt t so c) 47)):=(zzR _ _).alloc (zzL _) _;have hva:=zen f t so c (w.alloc (.cells (zzt t so c) 47)) (hsl.tms hba) hok hcap;rw [hv]at hva;have hfm:zj (f+1) t=true:=by unfold zD at hv;rw [Bool.and_eq_true]at hv;exact hv.1
 have hlen:=zhE hv;have hlen2:(zV (f+1) t).length<=4400001:=by have:(zfN (f+1) t).length=(zV (f+1) t).length+1:=rfl;omega
 have HC:Hid (∀(wx:World),Below w.heap.size w wx->Calls Tryz.prog 80 #[.agg #[.int .i64 t.kind,.int .i64 t.int,.int .i64 t.gen,.string t.name,.string t.func,.int .i64 t.arity,.slice so t.items.length c,.string t.bytes,.int .i64 t.bits]] wx (zfm wx (zV (f+1) t))):=zzH (fun wx hx=>zja f t so c wx (hsl.tms hx) hok hfm (by omega));have HNE:=zzH (zhL f t hfm);have HVA:=zzH hva;have HBX:=zzH hbx;have HBA:=zzH hba;have HL2:=zzH hlen2;have HP:Hid ((⟨#[131]⟩:ByteArray)++⟨(zV (f+1) t).toArray⟩=⟨(zfN (f+1) t).toArray⟩):=zzH (zF [131] _);clear hsl hok hcap hv hbx hba hva hfm hlen hlen2;generalize zV (f+1) t=C at *;generalize zfN (f+1) t=PE at *;have hadd:=fun wx=>run_string_add_sum (P:=Tryz.prog) wx ⟨#[131]⟩ ⟨C.toArray⟩ (by rw [bsz C];have:=HL2.out;show 1+_<=_;omega)
 go_in;go_upto_region 1 with fail;have hq:=HBX.out;generalize w.alloc (.cells (zzt t so c) 47)=Wa at *;generalize hBz:w.heap.size=B at *;have HBZ:=zzH hBz;clear hBz;obtain⟨c0,c1,c2,c3,c4,c5,c6,c7,c8,cz⟩:=zf hq;have hlx:=zc hq;clear cz hq;go_wp2_with fail;refine HVA.out.mono ?_;rintro e w1 ⟨rfl,hb1⟩;have HB1:Hid (Below B w w1):=zzH (HBA.out.trans (hb1.mono (by have:=HBA.out.size;have:=HBZ.out;omega)));have hq1:=(hb1.block B hlx).trans HBX.out;clear hb1 hlx c0 c1 c2 c3 c4 c5 c6 c7 c8;obtain⟨c0,c1,c2,c3,c4,c5,c6,c7,c8,cz⟩:=zf hq1;have hlx:=zc hq1;clear cz hq1;go_wp2_with fail;refine(HC.out _ HB1.out).mono ?_;rintro e w2 ⟨v,rfl,ho,hb⟩;obtain⟨g,cap,cur,rfl,hg1,hg2,hg3⟩:=zbH ho HNE.out;have hcv:=zfP (cap:=cap) C (zbM hg2 hg3);have HF:Hid (Below B w w2):=zzH (HB1.out.trans (hb.mono (by have:=HB1.out.size;have:=HBZ.out;omega)));clear ho hb hg1 hg2 hg3 c0 c1 c2 c3 c4 c5 c6 c7 c8 hlx;go_wp2_with fail;go_ret2;exact⟨congrArg (fun s=>Ending.returned (.tuple #[.string s,.int .i64 0])) HP.out,by rw [HBZ.out];exact HF.out⟩
theorem zkU (nl:Nat) (x:RIns) (h:1<=x.op/\x.op<=40):zeD nl x (zd3 x.op)=zbd nl x (zw x.op).1.toNat (zw x.op).2.1.toNat (zw x.op).2.2.toNat:=by
 rw [zhn h,<-zju];have hk:x.op.toNat<41:=by omega
 have hr:zw x.op=rowT[x.op.toNat]'hk:=by unfold zw;rw [zzq8 (by exact hk)];rfl
 have:=zhI x.op.toNat hk;rw [hr,Int.toNat_of_nonneg this.2.2.1,Int.toNat_of_nonneg this.2.2.2.2.1]
theorem zkl (code:List RIns) (i:Nat) (x:RIns) (h:1<=x.op/\x.op<=40):zez code i x (zd3 x.op).g=zb2 code i x (zw x.op).1.toNat:=by
 rw [zhn h];exact zkT code i x _
theorem zic (f:Nat) (u:RUnit) (lo fo go co:Option Addr) (lc fc gc cc:Nat) (w:World) (hp:UP w u lo fo go co) (hlits:SlAt w 9 (TmAt w (f+1)) lo u.lits) (hcap: ∀t∈u.lits,(zR (f+1) t:Int)<=1152921504606846976):
  Calls Tryz.prog 50 #[.agg (zzu u lo lc fo fc go gc co cc)] w fun e w'=>e= .returned (.tuple #[.int .i64 (zco (f+1) u),.int .i64 (zbt (f+1) u)])/\Below w.heap.size w w':=by
 unfold zzu;have HP0:=zzH hp;have HLI0:=zzH hlits;have HCAP:=zzH hcap;have hcl:=hp.codeLen;clear hp hlits hcap;have hbx:=zdQ w u lo fo go co lc fc gc cc;have hba:Below w.heap.size w (w.alloc (.cells (zzu u lo lc fo fc go gc co cc) 28)):=(zzR _ _).alloc (zzL _) _;have HT:=zzH (zkH f u lo fo go co lc fc gc cc _ (HP0.out.below hba) (HLI0.out.tms hba) HCAP.out);have EI:Hid (zco (f+1) u=if zba (f+1) u=true then(match zbw u u.code 0 with|some i=>(i:Int)|none=>0)else -1):=zzH rfl;have EE:Hid (zbt (f+1) u=if zba (f+1) u=true then(match zbw u u.code 0 with|some _=>6|none=>0)else 6):=zzH rfl;have HLV:Hid (zba (f+1) u=true-> ∀t∈u.lits,zD (f+1) t=true):=zzH zgJ;go_in;go_upto_region 1 with fail;generalize w.alloc (.cells (zzu u lo lc fo fc go gc co cc) 28)=W at *;have HBA:=zzH hba;have HP:=zzH (HP0.out.below hba);have HLI:=zzH (HLI0.out.tms hba);clear hba HP0 HLI0;generalize hBz:w.heap.size=B at *;have HBZ:=zzH hBz;clear hBz;have HFIN:Hid (∀wx,Below W.heap.size W wx->Below B w wx):=zzH (fun wx hh=>HBA.out.trans (hh.mono (by have:=HBA.out.size;have:=HBZ.out;omega)));have HU:=zzH hbx;have z0:=hbx.c0;have z1:=hbx.c1;have z2:=hbx.c2;have z3:=hbx.c3;have z4:=hbx.c4;have z5:=hbx.c5;have hlu:=hbx.lt;clear hbx;generalize zba (f+1) u=tb at *
 cases tb with
 |false=>
  rw [if_neg (by decide)]at EI EE;go_wp2_with fail;refine HT.out.mono ?_;rintro e w5 ⟨rfl,hb5⟩;go_wp2_with fail;go_ret2;exact⟨zc6 EI.out.symm EE.out.symm,by rw [HBZ.out];exact HFIN.out _ hb5⟩
 |true=>
  rw [if_pos rfl]at EI EE;have HI:Hid (zbw u u.code 0=zbw u (u.code.drop 0) 0):=zzH rfl;go_wp2_with fail;refine HT.out.mono ?_;rintro e w5 ⟨rfl,hb5⟩;have HB5:=zzH hb5;clear z0 z1 z2 z3 z4 z5 hlu;have z5:=(HU.out.below hb5).c5;clear hb5;go_wp2_with fail;go_loopw [4,5,6,7] (fun i _ _ _ wr=> ∃k:Nat,k<=u.code.length/\i= .int .i64 k/\Hid (zbw u u.code 0=zbw u (u.code.drop k) k)/\Below W.heap.size W wr) (fun i _ _ _ _=>u.code.length-(intOf i).toNat)
  case atStart=>exact⟨0,zzZ _,rfl,HI,HB5.out⟩
  case round=>
   obtain⟨k,hk,rfl,HK,hBw⟩:=hrel;rename World=>wr
   clear z5 HI HB5;have HBW:=zzH hBw;have z5:=(HU.out.below hBw).c5;have hlu:=(HU.out.below hBw).lt;clear hBw;by_cases hlt:k<u.code.length
   ·obtain⟨bc,oc,so,co',go',sc,cc',gc',hco,hxb⟩:=ze4 (HP.out.below HBW.out).code hlt
    subst hco;have HST:=zzH (zjH u hlt);have k0:=hxb.c0;have k1:=hxb.c1;have k2:=hxb.c2;have k3:=hxb.c3;have k4:=hxb.c4;have k5:=hxb.c5;have k6:=hxb.c6;have k7:=hxb.c7;have k8:=hxb.c8;have k9:=hxb.c9;have hkl:=hxb.lt;have HXB:=zzH hxb;have HINS:Hid (zeT u k u.code[k]=(zc5 u.code[k].op&&(zbd u.lits.length u.code[k] (zw u.code[k].op).1.toNat (zw u.code[k].op).2.1.toNat (zw u.code[k].op).2.2.toNat&&(zl u.funcs.length u.funs u.code[k]&&(zbu u.code[k]&&(zby u.lits u.code[k]&&zb2 u.code k u.code[k] (zw u.code[k].op).1.toNat)))))):=zzH rfl;have HRF:Hid (1<=u.code[k].op/\u.code[k].op<=40->zeD u.lits.length u.code[k] (zd3 u.code[k].op)=zbd u.lits.length u.code[k] (zw u.code[k].op).1.toNat (zw u.code[k].op).2.1.toNat (zw u.code[k].op).2.2.toNat):=zzH (fun h=>zkU _ _ h);have HRT:Hid (1<=u.code[k].op/\u.code[k].op<=40->zez u.code k u.code[k] (zd3 u.code[k].op).g=zb2 u.code k u.code[k] (zw u.code[k].op).1.toNat):=zzH (fun h=>zkl _ _ _ h);have hro:=fun wx=>zgH u.code[k].op wx
    have hbad:zeT u k u.code[k]=false->zbw u u.code 0=some k:=fun e=>by rw [HK.out,HST.out,e];rfl
    have hgood:zeT u k u.code[k]=true->zbw u u.code 0=zbw u (u.code.drop (k+1)) (k+1):=fun e=>by rw [HK.out,HST.out,e];rfl
    have hlx:=hxb.rsrc;have hlcs:=hxb.rcases;have hlsg:=hxb.rsegs;have hnm:=hxb.rname;have hnn:=hxb.rn;have hdk:=And.intro hxb.rdk hxb.rdn;have CF:=zzH (fun wx (hx:Below W.heap.size W wx) (hb:Below wr.heap.size wr wx)=>zk0 u lo fo go (some ⟨bc,oc,none⟩) lc fc gc cc u.code[k] so co' go' sc cc' gc' (zd3 u.code[k].op) wx HP.out.litsLen (hxb.src.mono hb fun _ _ h=>h) hdk hlx hlcs hlsg);have CN:=zzH (fun wx (hx:Below W.heap.size W wx) (hb:Below wr.heap.size wr wx)=>zk7 u lo fo go (some ⟨bc,oc,none⟩) lc fc gc cc u.code[k] so co' go' sc cc' gc' wx HP.out.funcsLen HP.out.funsLen (HP.out.below hx).funs hnn hlx);have CM:=zzH (fun wx (hx:Below W.heap.size W wx) (hb:Below wr.heap.size wr wx)=>zmV u.code[k] so co' go' sc cc' gc' wx hnm hlx hnn);have CL:=zzH (fun wx (hx:Below W.heap.size W wx) (hb:Below wr.heap.size wr wx)=>zmi u lo fo go (some ⟨bc,oc,none⟩) lc fc gc cc u.code[k] so co' go' sc cc' gc' f wx HP.out.litsLen ⟨HLI.out.tms hx,fun t ht=>⟨HLV.out (by trivial) t ht,HCAP.out t ht⟩⟩ (hxb.cases.mono hb fun _ _ h=>h) (hxb.segs.mono hb fun _ _ h=>h) hlcs hlsg);have CT:=zzH (fun wx (hx:Below W.heap.size W wx) (hb:Below wr.heap.size wr wx)=>zkq u lo fo go (some ⟨bc,oc,none⟩) lc fc gc cc k (zd3 u.code[k].op) wx (HP.out.below hx).code hcl hlt);dsimp only [zzi,zzu]at CF CN CM CL CT;have HBAD:=zzH hbad;have HGOOD:=zzH hgood;clear hbad hgood hxb HST HXB hlx hlcs hlsg hnm hnn hdk;have hXB:=fun(wx:World)=>heap_alloc_new wx (.cells #[.int .i64 u.code[k].op,.int .i64 u.code[k].dst.kind,.int .i64 u.code[k].dst.n,.slice so u.code[k].src.length sc,.int .i64 u.code[k].to,.int .i64 u.code[k].n,.int .i64 u.code[k].live,.string u.code[k].name,.slice co' u.code[k].cases.length cc',.slice go' u.code[k].segs.length gc'] 64)
    have HXN:=zzH hXB;clear hXB;generalize zeD u.lits.length u.code[k] (zd3 u.code[k].op)=b1 at *;generalize zez u.code k u.code[k] (zd3 u.code[k].op).g=b5 at *;generalize zl u.funcs.length u.funs u.code[k]=b2 at *;generalize zbu u.code[k]=b3 at *;generalize zby u.lits u.code[k]=b4 at *;generalize zeT u k u.code[k]=ib at *;have hopk:zc5 u.code[k].op=true->1<=u.code[k].op/\u.code[k].op<=40:=fun h=>of_decide_eq_true h
    have HOPK:=zzH hopk;clear hopk;generalize zbd u.lits.length u.code[k] (zw u.code[k].op).1.toNat (zw u.code[k].op).2.1.toNat (zw u.code[k].op).2.2.toNat=f1 at *;generalize zb2 u.code k u.code[k] (zw u.code[k].op).1.toNat=f5 at *
    have HIB:Hid (ib=(zc5 u.code[k].op&&(b1&&(b2&&(b3&&(b4&&b5)))))):=zzH (by
     rw [HINS.out]
     cases h:zc5 u.code[k].op with
     |false=>rfl
     |true=>rw [HRF.out (HOPK.out h),HRT.out (HOPK.out h)])
    clear HINS HRF HRT HOPK;generalize zc5 u.code[k].op=b0 at *;generalize hrw:zd3 u.code[k].op=rw0 at *;obtain⟨ra,rb,rc,rd,re,rf,rg,rh,rlo,rhi⟩:=rw0;clear hrw;simp only [RRow.val]at hro CF CT;generalize u.code[k]=x at *;obtain⟨op,⟨dk,dn⟩,src,jt,nn,lv,nm,cases,segs⟩:=x;simp only at *;generalize src.length=sl at *;generalize cases.length=cl at *;generalize segs.length=gl at *;go_upto_region 7 with fail;have hx1:=HXN.out wr;have hxb1:Below wr.heap.size wr (wr.alloc (.cells #[.int .i64 op,.int .i64 dk,.int .i64 dn,.slice so sl sc,.int .i64 jt,.int .i64 nn,.int .i64 lv,.string nm,.slice co' cl cc',.slice go' gl gc'] 64)):=(zzR _ _).alloc (zzL _) _;generalize wr.alloc (.cells #[.int .i64 op,.int .i64 dk,.int .i64 dn,.slice so sl sc,.int .i64 jt,.int .i64 nn,.int .i64 lv,.string nm,.slice co' cl cc',.slice go' gl gc'] 64)=W1 at *;clear HXN;have HX1:=zzH hx1;have HB1:=zzH hxb1;have x0:W1.cell? ⟨wr.heap.size,0,none⟩=some (.int .i64 op):=by rw [zzq2 _ _ _ _ _ _ hx1];rfl
    have hlx1:=zc hx1;clear k0 k1 k2 k3 k4 k5 k6 k7 k8 k9 z5 hlu hkl hx1 hxb1;generalize hXz:wr.heap.size=X at *;have HXZ:=zzH hXz;clear hXz;go_wp2_with fail;refine(hro _).mono ?_;rintro e w2 ⟨rfl,hb2⟩;go_upto_region 8 with fail;have hr1:=heap_alloc_new w2 (.cells #[.bool ra,.bool rb,.bool rc,.bool rd,.bool re,.bool rf,.bool rg,.bool rh,.int .i64 rlo,.int .i64 rhi] 133);have hrb1:Below w2.heap.size w2 (w2.alloc (.cells #[.bool ra,.bool rb,.bool rc,.bool rd,.bool re,.bool rf,.bool rg,.bool rh,.int .i64 rlo,.int .i64 rhi] 133)):=(zzR _ _).alloc (zzL _) _;generalize w2.alloc (.cells #[.bool ra,.bool rb,.bool rc,.bool rd,.bool re,.bool rf,.bool rg,.bool rh,.int .i64 rlo,.int .i64 rhi] 133)=W2 at *;have HR1:=zzH hr1;have HB2:Hid (Below wr.heap.size wr W2):=zzH ((show Below wr.heap.size wr W1 by rw [HXZ.out];exact HB1.out).trans ((hb2.trans (hrb1.mono hb2.size)).mono (by have:=HB1.out.size;have:=HXZ.out;omega)));have HX2:Hid (W2.heap[X]?=some (.cells #[.int .i64 op,.int .i64 dk,.int .i64 dn,.slice so sl sc,.int .i64 jt,.int .i64 nn,.int .i64 lv,.string nm,.slice co' cl cc',.slice go' gl gc'] 64 (0,0))):=zzH (((hb2.trans (hrb1.mono hb2.size)).block X hlx1).trans HX1.out)
    have HBW2:Hid (Below W.heap.size W W2):=zzH (ze HBW.out HB2.out);clear x0 hlx1 hb2 hrb1 hr1 HX1 HB1;generalize hRz:w2.heap.size=Z at *;have HRZ:=zzH hRz;clear hRz
    cases b0 with
    |false=>
     have hb:=HBAD.out HIB.out;have E1:Hid (zco (f+1) u=k):=zzH (by rw [EI.out,hb]);have E2:Hid (zbt (f+1) u=6):=zzH (by rw [EE.out,hb]);clear hb;go_wp2_with fail;go_ret2;exact⟨zc6 E1.out.symm E2.out.symm,by rw [HBZ.out];exact HFIN.out _ (ze HBW2.out (zzR _ _))⟩
    |true=>
     have z0:=(HU.out.below HBW2.out).c0;have z1:=(HU.out.below HBW2.out).c1;have z2:=(HU.out.below HBW2.out).c2;have z3:=(HU.out.below HBW2.out).c3;have z4:=(HU.out.below HBW2.out).c4;have z5:=(HU.out.below HBW2.out).c5;have hlua:=(HU.out.below HBW2.out).lt;have qx:=HX2.out;obtain ⟨x0,x1,x2,x3,x4,x5,x6,x7,x8,x9⟩:=zzc10 qx;have hlxa:=zc qx;clear qx;have qr:=HR1.out;obtain ⟨r0,r1,r2,r3,r4,r5,r6,r7,r8,r9⟩:=zzc10 qr;have hlra:=zc qr;clear qr;go_wp2_with fail;refine(CF.out _ (ze HBW2.out (zzR _ _)) (by rw [<-HXZ.out];exact ze HB2.out (zzR _ _))).mono ?_;rintro e w10 ⟨rfl,hb10⟩;have HB10:=zzH (ze (zzR _ _) hb10);clear hb10 z0 z1 z2 z3 z4 z5 x0 x1 x2 x3 x4 x5 x6 x7 x8 x9 r0 r1 r2 r3 r4 r5 r6 r7 r8 r9
     cases b1 with
     |false=>
      have hb:=HBAD.out HIB.out;have E1:Hid (zco (f+1) u=k):=zzH (by rw [EI.out,hb]);have E2:Hid (zbt (f+1) u=6):=zzH (by rw [EE.out,hb]);clear hb;go_wp2_with fail;go_ret2;exact⟨zc6 E1.out.symm E2.out.symm,by rw [HBZ.out];exact HFIN.out _ (ze HBW2.out HB10.out)⟩
     |true=>
      have z0:=(HU.out.below (ze HBW2.out HB10.out)).c0;have z1:=(HU.out.below (ze HBW2.out HB10.out)).c1;have z2:=(HU.out.below (ze HBW2.out HB10.out)).c2;have z3:=(HU.out.below (ze HBW2.out HB10.out)).c3;have z4:=(HU.out.below (ze HBW2.out HB10.out)).c4;have z5:=(HU.out.below (ze HBW2.out HB10.out)).c5;have hlub:=(HU.out.below (ze HBW2.out HB10.out)).lt;have qx:=(HB10.out.block X (zc HX2.out)).trans HX2.out;obtain ⟨x0,x1,x2,x3,x4,x5,x6,x7,x8,x9⟩:=zzc10 qx;have hlxb:=zc qx;clear qx;go_wp2_with fail;refine(CN.out _ (ze HBW2.out HB10.out) (by rw [<-HXZ.out];exact ze HB2.out HB10.out)).mono ?_;rintro e w11 ⟨rfl,hb11⟩;have HB11:=zzH (ze HB10.out hb11);clear hb11 z0 z1 z2 z3 z4 z5 x0 x1 x2 x3 x4 x5 x6 x7 x8 x9
      cases b2 with
      |false=>
       have hb:=HBAD.out HIB.out;have E1:Hid (zco (f+1) u=k):=zzH (by rw [EI.out,hb]);have E2:Hid (zbt (f+1) u=6):=zzH (by rw [EE.out,hb]);clear hb;go_wp2_with fail;go_ret2;exact⟨zc6 E1.out.symm E2.out.symm,by rw [HBZ.out];exact HFIN.out _ (ze HBW2.out HB11.out)⟩
      |true=>
       have qx:=(HB11.out.block X (zc HX2.out)).trans HX2.out;obtain ⟨x0,x1,x2,x3,x4,x5,x6,x7,x8,x9⟩:=zzc10 qx;have hlxc:=zc qx;clear qx;go_wp2_with fail;refine(CM.out _ (ze HBW2.out HB11.out) (by rw [<-HXZ.out];exact ze HB2.out HB11.out)).mono ?_;rintro e w12 ⟨rfl,hb12⟩;have HB12:=zzH (ze HB11.out hb12);clear hb12 x0 x1 x2 x3 x4 x5 x6 x7 x8 x9
       cases b3 with
       |false=>
        have hb:=HBAD.out HIB.out;have E1:Hid (zco (f+1) u=k):=zzH (by rw [EI.out,hb]);have E2:Hid (zbt (f+1) u=6):=zzH (by rw [EE.out,hb]);clear hb;go_wp2_with fail;go_ret2;exact⟨zc6 E1.out.symm E2.out.symm,by rw [HBZ.out];exact HFIN.out _ (ze HBW2.out HB12.out)⟩
       |true=>
        have z0:=(HU.out.below (ze HBW2.out HB12.out)).c0;have z1:=(HU.out.below (ze HBW2.out HB12.out)).c1;have z2:=(HU.out.below (ze HBW2.out HB12.out)).c2;have z3:=(HU.out.below (ze HBW2.out HB12.out)).c3;have z4:=(HU.out.below (ze HBW2.out HB12.out)).c4;have z5:=(HU.out.below (ze HBW2.out HB12.out)).c5;have hlud:=(HU.out.below (ze HBW2.out HB12.out)).lt;have qx:=(HB12.out.block X (zc HX2.out)).trans HX2.out;obtain ⟨x0,x1,x2,x3,x4,x5,x6,x7,x8,x9⟩:=zzc10 qx;have hlxd:=zc qx;clear qx;go_wp2_with fail;refine(CL.out _ (ze HBW2.out HB12.out) (by rw [<-HXZ.out];exact ze HB2.out HB12.out)).mono ?_;rintro e w13 ⟨rfl,hb13⟩;have HB13:=zzH (ze HB12.out hb13);clear hb13 z0 z1 z2 z3 z4 z5 x0 x1 x2 x3 x4 x5 x6 x7 x8 x9
        cases b4 with
        |false=>
         have hb:=HBAD.out HIB.out;have E1:Hid (zco (f+1) u=k):=zzH (by rw [EI.out,hb]);have E2:Hid (zbt (f+1) u=6):=zzH (by rw [EE.out,hb]);clear hb;go_wp2_with fail;go_ret2;exact⟨zc6 E1.out.symm E2.out.symm,by rw [HBZ.out];exact HFIN.out _ (ze HBW2.out HB13.out)⟩
        |true=>
         have z0:=(HU.out.below (ze HBW2.out HB13.out)).c0;have z1:=(HU.out.below (ze HBW2.out HB13.out)).c1;have z2:=(HU.out.below (ze HBW2.out HB13.out)).c2;have z3:=(HU.out.below (ze HBW2.out HB13.out)).c3;have z4:=(HU.out.below (ze HBW2.out HB13.out)).c4;have z5:=(HU.out.below (ze HBW2.out HB13.out)).c5;have hlue:=(HU.out.below (ze HBW2.out HB13.out)).lt;have qr:=(HB13.out.block Z (zc HR1.out)).trans HR1.out;obtain ⟨r0,r1,r2,r3,r4,r5,r6,r7,r8,r9⟩:=zzc10 qr;have hlre:=zc qr;clear qr;go_wp2_with fail;refine(CT.out _ (ze HBW2.out HB13.out) (by rw [<-HXZ.out];exact ze HB2.out HB13.out)).mono ?_;rintro e w14 ⟨rfl,hb14⟩;have HB14:=zzH (ze HB13.out hb14);clear hb14 z0 z1 z2 z3 z4 z5 r0 r1 r2 r3 r4 r5 r6 r7 r8 r9
         cases b5 with
         |false=>
          have hb:=HBAD.out HIB.out;have E1:Hid (zco (f+1) u=k):=zzH (by rw [EI.out,hb]);have E2:Hid (zbt (f+1) u=6):=zzH (by rw [EE.out,hb]);clear hb;go_wp2_with fail;go_ret2;exact⟨zc6 E1.out.symm E2.out.symm,by rw [HBZ.out];exact HFIN.out _ (ze HBW2.out HB14.out)⟩
         |true=>
          have HK2:=zzH (HGOOD.out HIB.out);go_wp2_with fail;go_roundw
          case rel=>exact⟨k+1,by omega,by go_num,HK2,ze HBW2.out HB14.out⟩
          case measure=>simp [intOf];omega
   ·have hb:zbw u u.code 0=none:=by rw [HK.out,zzq6 (by omega)];rfl
    have E1:Hid (zco (f+1) u=0):=zzH (by rw [EI.out,hb]);have E2:Hid (zbt (f+1) u=0):=zzH (by rw [EE.out,hb]);clear hb;go_wp2_with fail;go_ret2;exact⟨zc6 E1.out.symm E2.out.symm,by rw [HBZ.out];exact HFIN.out _ HBW.out⟩
end Go.Proofs.YtlaabicdhkebbaaGreatDoor
