import Derived.Test.YtijekmeocadkeaaGreatDoorW14
import Derived.Test.YtijekmeocadkeaaGreatDoorW15
import Derived.Test.YtijekmeocadkeaaGreatDoorW16
namespace Go.Proofs.YtijekmeocadkeaaGreatDoor
open Go.RowKit
set_option linter.unusedVariables false
set_option linter.unusedSimpArgs false
set_option maxRecDepth 100000
set_option maxHeartbeats 0
structure RCx (X:Nat) (t:Tm) (so:Option Addr) (c:Nat) (w wx:World):Prop where
 box:wx.heap[X]?=some (.cells #[.int .i64 t.kind,.int .i64 t.int,.int .i64 t.gen,.string t.name,.string t.func,.int .i64 t.arity,.slice so t.items.length c,.string t.bytes,.int .i64 t.bits] 55 (0,0))
 bel:Below X w wx
 ge:X<=wx.heap.size
structure RSt (X:Nat) (t:Tm) (so:Option Addr) (c:Nat) (w:World) (v:Value) (l:List UInt8) (wx:World):Prop where
 bx:RCx X t so c w wx
 own:wx.ownsRow X 5 1 v l.length (zo l)
theorem RCx.below {X:Nat} {t:Tm} {so:zzA} {c:Nat} {w wx wy:World} (h:RCx X t so c w wx) (hb:Below wx.heap.size wx wy):RCx X t so c w wy:=
 ⟨(hb.block X (zc h.box)).trans h.box,h.bel.trans (hb.mono h.ge),zzY h.ge hb.size⟩
theorem RSt.below {X:Nat} {t:Tm} {so:zzA} {c:Nat} {w wx wy:World} {v:Value} {l:List UInt8} (h:RSt X t so c w v l wx) (hb:Below wx.heap.size wx wy):RSt X t so c w v l wy:=
 ⟨h.bx.below hb,zii h.own hb⟩
theorem RSt.app {X:Nat} {t:Tm} {so:zzA} {c:Nat} {w wx wy:World} {v v':Value} {l l2:List UInt8} {xs:List Value} {n:Nat} (h:RSt X t so c w v l wx) (ho:wy.ownsRow X 5 1 v' n xs) (hg:wx.grownBy wy v.ownBlock) (hn:n=l.length+l2.length) (hxs:xs=zo l++zo l2):RSt X t so c w v' (l++l2) wy:=by
 subst hn;subst hxs;have hne:v.ownBlock≠some X:=zgY h.own h.bx.box (by decide);refine⟨⟨(hg.block X (zc h.bx.box) (fun e=>hne e.symm)).trans h.bx.box,h.bx.bel.grown hg h.bx.ge (fun k hk=>(h.own.lt k hk).1),zzY h.bx.ge hg.size⟩,?_⟩;rw [zeg,zzq1];exact ho
theorem RCx.lit {X:Nat} {t:Tm} {so:zzA} {c:Nat} {w wx:World} (h:RCx X t so c w wx) (cs:Array Value) (l:List UInt8) (n:Nat) (hn:n=l.length) (hcs:cs.toList=zo l) (hm:n<=1000):RSt X t so c w (.slice (some ⟨wx.heap.size,0,none⟩) n n) l (wx.alloc (.cells cs 5)):=by
 refine⟨h.below (zzE _ _),?_⟩;have:=zff (w:=wx) (B:=X) cs l n h.ge hn hcs hm
 rwa [hn]at this ⊢
theorem zgB (l:List UInt8) (cs:Array Value) (hcs:cs.toList=zo l) (w:World): ∀j u,(zo l)[j]?=some u->(w.alloc (.cells cs 5)).cell? ((⟨w.heap.size,0,none⟩:Addr).add j)=some u:=zgJ l cs hcs
def zkF (f:Nat):Prop:= ∀(t:Tm) (so:Option Addr) (c:Nat) (w:World),SlAt w 9 (TmAt w f) so t.items->t.Ok->zj (f+1) t=true->(zF (f+1) t).length<=17592186044416 ->
 Calls Tryz.prog 88 #[.agg #[.int .i64 t.kind,.int .i64 t.int,.int .i64 t.gen,.string t.name,.string t.func,.int .i64 t.arity,.slice so t.items.length c,.string t.bytes,.int .i64 t.bits]] w (zfU w (zF (f+1) t))
theorem zk3 (f:Nat) (t:Tm) (h:zj (f+1) t=true):zF (f+1) t≠ []:=by
 have hfa:zcm t=true:=by unfold zj at h;rw [zzq6]at h;exact h.1
 have hk:okK t=true:=by unfold zcm at hfa;rw [zzq6]at hfa;exact hfa.1
 have hi:zbJ t.int≠ []:=by unfold zbJ zgU;split<;>(try split)<;>simp
 have hh:zx t≠ []:=by
  by_cases h1:t.kind=1\/t.kind=2\/t.kind=3\/t.kind=4\/t.kind=5\/t.kind=6\/t.kind=7\/t.kind=8\/t.kind=9\/t.kind=10
  ·rcases h1 with h1|h1|h1|h1|h1|h1|h1|h1|h1|h1<;>(unfold zx;simp [h1,hi,zE])
   split<;>simp
  ·exact absurd hk (by rw [zeD h1];decide)
 exact fun e=>hh (List.append_eq_nil_iff.1 e).1
theorem zim (f:Nat) (IH: ∀f',f=f'+1->zkF f'):zkF f:=by
 intro t so c w hsl hok hform hlen;obtain⟨i0,hi,hz0,hz1,hz2⟩:=info_parts zdw;have hfa:zcm t=true/\t.items.all (zj f)=true:=by unfold zj at hform;rwa [zzq6]at hform
 have hokK:okK t=true:=by have:=hfa.1;unfold zcm at this;rw [zzq6]at this;exact this.1
 have HZI:Hid (¬(t.kind=4\/t.kind=7\/t.kind=9)->zF (f+1) t=zx t):=zzH (fun hk=>by
  have hz:zcL t=true:=by have:=hfa.1;unfold zcm at this;rw [zzq6]at this;exact this.2
  unfold zcL at hz;simp only [decide_eq_false hk,zzq9,zzq6]at hz;have hz:=hz.1.1.2;unfold zL at hz;have:t.items= []:=zzQ (zza hz);show zx t++t.items.flatMap (zF f)=zx t;rw [this];simp)
 have HT:Hid (zF (f+1) t=zx t++(t.items.drop 0).flatMap (zF f)):=zzH rfl;have HTL:=zzH hlen;have hhl:=(zgd hokK).1;obtain⟨ok0,ok1,ok2,ok3,ok4,ok5,ok6,ok7,ok8⟩:=hok;unfold maxLen at ok3 ok4 ok6 ok7
 have HREC:Hid (∀(k:Nat) (wr:World) (hlt:k<t.items.length),Below w.heap.size w wr-> ∃b2 off ai ci,so=some ⟨b2,off,none⟩/\b2<wr.heap.size/\wr.cell? ⟨b2,off+k*9,none⟩=some (.int .i64 t.items[k].kind)/\wr.cell? ⟨b2,off+k*9+1,none⟩=some (.int .i64 t.items[k].int)/\wr.cell? ⟨b2,off+k*9+2,none⟩=some (.int .i64 t.items[k].gen)/\wr.cell? ⟨b2,off+k*9+3,none⟩=some (.string t.items[k].name)/\wr.cell? ⟨b2,off+k*9+4,none⟩=some (.string t.items[k].func)/\wr.cell? ⟨b2,off+k*9+5,none⟩=some (.int .i64 t.items[k].arity)/\wr.cell? ⟨b2,off+k*9+6,none⟩=some (.slice ai t.items[k].items.length ci)/\wr.cell? ⟨b2,off+k*9+7,none⟩=some (.string t.items[k].bytes)/\wr.cell? ⟨b2,off+k*9+8,none⟩=some (.int .i64 t.items[k].bits)/\(zF f t.items[k]≠ []/\((zF f t.items[k]).length<=17592186044416->Calls Tryz.prog 88 #[.agg #[.int .i64 t.items[k].kind,.int .i64 t.items[k].int,.int .i64 t.items[k].gen,.string t.items[k].name,.string t.items[k].func,.int .i64 t.items[k].arity,.slice ai t.items[k].items.length ci,.string t.items[k].bytes,.int .i64 t.items[k].bits]] wr (zfU wr (zF f t.items[k]))))):=zzH (fun k wr hlt hb=>by
  cases f with
  |zero=>rw [hsl.zero]at hlt;exact absurd hlt (zzC _)
  |succ f=>
   obtain⟨b2,off,ai,ci,hao,hb2,q0,q1,q2,q3,q4,q5,q6,q7,q8,hit,hok2⟩:=(SlAt.tms hsl hb).tm hlt;have hf2:=zzp.1 hfa.2 _ (zzM hlt);exact⟨b2,off,ai,ci,hao,hb2,q0,q1,q2,q3,q4,q5,q6,q7,q8,zk3 f _ hf2,fun h3=>IH f rfl _ ai ci wr hit hok2 hf2 h3⟩)
 have hbx:=zbM w t so c;have hba:Below w.heap.size w (w.alloc (.cells (zzt t so c) 55)):=zzE _ _;have HS0:Hid (RCx w.heap.size t so c w (w.alloc (.cells (zzt t so c) 55))):=zzH ⟨hbx,hba,hba.size⟩;clear hsl hform hlen hbx hba hfa IH;unfold zfU;generalize zF (f+1) t=CE at *;go_in;go_upto_region 1 with fail;generalize w.alloc (.cells (zzt t so c) 55)=W at *;generalize hXz:w.heap.size=X at *;have HXZ:=zzH hXz;clear hXz;obtain⟨c0,c1,c2,c3,c4,c5,c6,c7,c8,cz⟩:=zg HS0.out.box;have hlx:=zc HS0.out.box;clear cz;go_upto_block 0 with fail;go_cut [3] (fun v3 wx=>Hid (RSt X t so c w v3 (zx t) wx))
 case first=>
  clear HREC HT HTL;by_cases hk:t.kind=1
  ·clear hokK
   have HE:Hid (zx t=zbJ t.int):=zzH (by unfold zx;simp [hk]);have t1:(t.kind==1)=true:=by rw [beq_iff_eq];exact hk
   have hk4: ¬(t.kind=4\/t.kind=7\/t.kind=9):=by omega
   have HCE:=zzH (HZI.out hk4);clear hk4;clear hk HZI;go_wp2_with fail;refine(zgu t.int _ ok1).mono ?_;rintro e w1 ⟨v1,rfl,ho,hb⟩;have HF:Hid (w1.ownsRow X 5 1 v1 (zx t).length (zo (zx t))/\Below X w w1):=zzH ⟨by rw [HE.out];exact zjt ho HS0.out.ge,(HS0.out.below hb).bel⟩;exact zz169
  by_cases hk:t.kind=2
  ·have hn:zw t.name=true:=by unfold okK at hokK;simpa [hk] using hokK
   have:=zJ hn;have HE:Hid (zx t=zE t.name):=zzH (by unfold zx;simp [hk]);have t1:(t.kind==1)=false:=by rw [zzq3];omega
   have t2:(t.kind==2)=true:=by rw [beq_iff_eq];exact hk
   have hk4: ¬(t.kind=4\/t.kind=7\/t.kind=9):=by omega
   have HCE:=zzH (HZI.out hk4);clear hk4;clear hk HZI;go_wp2_with fail;refine(zdW t.name _ (zJ hn)).mono ?_;rintro e w2 ⟨v2,rfl,ho,hb⟩;have HF:Hid (w2.ownsRow X 5 1 v2 (zx t).length (zo (zx t))/\Below X w w2):=zzH ⟨by rw [HE.out];exact zjt ho HS0.out.ge,(HS0.out.below hb).bel⟩;exact zz169
  by_cases hk:t.kind=7
  ·have hn:t.items.length<=255:=by unfold okK at hokK;simpa [hk] using hokK
   have HE:Hid (zx t= [104,UInt8.ofNat t.items.length]):=zzH (by unfold zx;simp [hk]);have t1:(t.kind==1)=false:=by rw [zzq3];omega
   have t2:(t.kind==2)=false:=by rw [zzq3];omega
   have t7:(t.kind==7)=true:=by rw [beq_iff_eq];exact hk
   clear hk HZI;have HS:=zzH (HS0.out.lit #[.int .u8 104,.int .u8 t.items.length] [104,UInt8.ofNat t.items.length] 2 rfl (by simp [zo]<;>omega) (by omega));exact zz168
  by_cases hk:t.kind=8
  ·clear hokK
   have HE:Hid (zx t= [106]):=zzH (by unfold zx;simp [hk]);have t1:(t.kind==1)=false:=by rw [zzq3];omega
   have t2:(t.kind==2)=false:=by rw [zzq3];omega
   have t7:(t.kind==7)=false:=by rw [zzq3];omega
   have t8:(t.kind==8)=true:=by rw [beq_iff_eq];exact hk
   have hk4: ¬(t.kind=4\/t.kind=7\/t.kind=9):=by omega
   have HCE:=zzH (HZI.out hk4);clear hk4;clear hk HZI;have HS:=zzH (HS0.out.lit #[.int .u8 106] [106] 1 rfl (by simp [zo]<;>omega) (by omega));go_wp2;go_ret;have HQ:=HS.out
   try simp only [zzq4]at HQ
   exact⟨_,rfl,by rw [HCE.out,HE.out,HXZ.out];exact HQ.own,by rw [HXZ.out];exact HQ.bx.bel⟩
  by_cases hk:t.kind=9
  ·have hn:2<=t.items.length:=by unfold okK at hokK;simp [hk]at hokK;exact hokK.1
   have hw1:=zzV t.items.length (by omega)
   have HE:Hid (zx t=108::beN 4 ((t.items.length:Int)-1)):=zzH (by unfold zx;simp [hk]);have t1:(t.kind==1)=false:=by rw [zzq3];omega
   have t2:(t.kind==2)=false:=by rw [zzq3];omega
   have t7:(t.kind==7)=false:=by rw [zzq3];omega
   have t8:(t.kind==8)=false:=by rw [zzq3];omega
   have t9:(t.kind==9)=true:=by rw [beq_iff_eq];exact hk
   clear hk HZI;have HS:=zzH (HS0.out.lit #[.int .u8 108] [108] 1 rfl (by simp [zo]<;>omega) (by omega));go_wp2_with fail;refine(zb9 ((t.items.length:Int)-1) 4 _ (by unfold I64;omega) (by omega)).mono ?_;rintro e w3 ⟨v3,rfl,ho,hb⟩;have HS:=zzH (HS.out.below hb);obtain⟨g,cap,cur,rfl,hg1,hg2,hg3⟩:=zbk ho (by intro e;have:=congrArg List.length e;rw [zi]at this;cases this);have HN:=zzH (zbq hg2 hg3);clear ho hb hg1 hg2 hg3;go_wp2_with (at_builtin;refine wpList_append_own_at _ rfl (.tmp 29) (.tmp 34) 65 rfl X 5 i0 (.int .u8 0) 1 1 Tryz.underlying65 hi hz0 hz1 hz2 rfl (by decide) _ _ _ rfl HS.out.own ⟨g,0,none⟩ (beN 4 ((t.items.length:Int)-1)).length cap (zo (beN 4 ((t.items.length:Int)-1))) rfl (by rw [zbf];exact(Nat.mul_one _).symm) HN.out (zbl _) (by unfold maxLen;first|omega|(simp [zi,zh];done)|(simp [zi,zh];omega)) (by rw [Nat.mul_one];first|omega|(simp [zi,zh];done)|(simp [zi,zh];omega)) HS.out.bx.ge ?_);intro v' wz hown' hgrow hnil hloc;have HS:=zzH (HS.out.app (l2:=beN 4 ((t.items.length:Int)-1)) hown' hgrow (by first|rfl|(simp [zi]<;>omega)) (by first|rfl|(simp only [zzq4];rfl)));clear hown' hgrow hnil hloc;clear HN;exact zz168
  by_cases hk:t.kind=10
  ·have hn:zcf t.bytes t.bits=true:=by unfold okK at hokK;simp [hk]at hokK;exact hokK
   obtain⟨hb0,hb1,hb2⟩:=zgh hn;have hy:t.bytes.size<=3000:=by omega
   clear hb2 hn hokK;by_cases hr:t.bits%8=0
   ·have hrb:(t.bits%8==0)=true:=by rw [beq_iff_eq];exact hr
    have HE:Hid (zx t=109::(beN 4 t.bytes.size++t.bytes.data.toList)):=zzH (by unfold zx;simp [hk,hr]);have t1:(t.kind==1)=false:=by rw [zzq3];omega
    have t2:(t.kind==2)=false:=by rw [zzq3];omega
    have t7:(t.kind==7)=false:=by rw [zzq3];omega
    have t8:(t.kind==8)=false:=by rw [zzq3];omega
    have t9:(t.kind==9)=false:=by rw [zzq3];omega
    have t10:(t.kind==10)=true:=by rw [beq_iff_eq];exact hk
    have hk4: ¬(t.kind=4\/t.kind=7\/t.kind=9):=by omega
    have HCE:=zzH (HZI.out hk4);clear hk4;clear hk HZI;have HS:=zzH (HS0.out.lit #[.int .u8 109] [109] 1 rfl (by simp [zo]<;>omega) (by omega));go_wp2_with fail;refine(zb9 (t.bytes.size:Int) 4 _ (by unfold I64;omega) (by omega)).mono ?_;rintro e w4 ⟨v4,rfl,ho,hb⟩;have HS:=zzH (HS.out.below hb);obtain⟨g,cap,cur,rfl,hg1,hg2,hg3⟩:=zbk ho (by intro e;have:=congrArg List.length e;rw [zi]at this;cases this);have HN:=zzH (zbq hg2 hg3);clear ho hb hg1 hg2 hg3;go_wp2_with (at_builtin;refine wpList_append_own_at _ rfl (.tmp 42) (.tmp 46) 65 rfl X 5 i0 (.int .u8 0) 1 1 Tryz.underlying65 hi hz0 hz1 hz2 rfl (by decide) _ _ _ rfl HS.out.own ⟨g,0,none⟩ (beN 4 (t.bytes.size:Int)).length cap (zo (beN 4 (t.bytes.size:Int))) rfl (by rw [zbf];exact(Nat.mul_one _).symm) HN.out (zbl _) (by unfold maxLen;first|omega|(simp [zi,zh];done)|(simp [zi,zh];omega)) (by rw [Nat.mul_one];first|omega|(simp [zi,zh];done)|(simp [zi,zh];omega)) HS.out.bx.ge ?_);intro v' wz hown' hgrow hnil hloc;have HS:=zzH (HS.out.app (l2:=beN 4 (t.bytes.size:Int)) hown' hgrow (by first|rfl|(simp [zi]<;>omega)) (by first|rfl|(simp only [zzq4];rfl)));clear hown' hgrow hnil hloc;clear HN;exact zz166
   ·have hrb:(t.bits%8==0)=false:=zzB.2 hr
    have HE:Hid (zx t=77::(beN 4 t.bytes.size++(UInt8.ofNat (t.bits%8).toNat::t.bytes.data.toList))):=zzH (by unfold zx;simp [hk,hr]);have t1:(t.kind==1)=false:=by rw [zzq3];omega
    have t2:(t.kind==2)=false:=by rw [zzq3];omega
    have t7:(t.kind==7)=false:=by rw [zzq3];omega
    have t8:(t.kind==8)=false:=by rw [zzq3];omega
    have t9:(t.kind==9)=false:=by rw [zzq3];omega
    have t10:(t.kind==10)=true:=by rw [beq_iff_eq];exact hk
    have hk4: ¬(t.kind=4\/t.kind=7\/t.kind=9):=by omega
    have HCE:=zzH (HZI.out hk4);clear hk4;clear hk HZI;have HS:=zzH (HS0.out.lit #[.int .u8 77] [77] 1 rfl (by simp [zo]<;>omega) (by omega));go_wp2_with fail;refine(zb9 (t.bytes.size:Int) 4 _ (by unfold I64;omega) (by omega)).mono ?_;rintro e w5 ⟨v5,rfl,ho,hb⟩;have HS:=zzH (HS.out.below hb);obtain⟨g,cap,cur,rfl,hg1,hg2,hg3⟩:=zbk ho (by intro e;have:=congrArg List.length e;rw [zi]at this;cases this);have HN:=zzH (zbq hg2 hg3);clear ho hb hg1 hg2 hg3;go_wp2_with (at_builtin;refine wpList_append_own_at _ rfl (.tmp 48) (.tmp 52) 65 rfl X 5 i0 (.int .u8 0) 1 1 Tryz.underlying65 hi hz0 hz1 hz2 rfl (by decide) _ _ _ rfl HS.out.own ⟨g,0,none⟩ (beN 4 (t.bytes.size:Int)).length cap (zo (beN 4 (t.bytes.size:Int))) rfl (by rw [zbf];exact(Nat.mul_one _).symm) HN.out (zbl _) (by unfold maxLen;first|omega|(simp [zi,zh];done)|(simp [zi,zh];omega)) (by rw [Nat.mul_one];first|omega|(simp [zi,zh];done)|(simp [zi,zh];omega)) HS.out.bx.ge ?_);intro v' wz hown' hgrow hnil hloc;have HS:=zzH (HS.out.app (l2:=beN 4 (t.bytes.size:Int)) hown' hgrow (by first|rfl|(simp [zi]<;>omega)) (by first|rfl|(simp only [zzq4];rfl)));clear hown' hgrow hnil hloc;clear HN;clear c0 c1 c2 c3 c4 c5 c6 c7 c8 hlx;obtain⟨c0,c1,c2,c3,c4,c5,c6,c7,c8,cz⟩:=zg HS.out.bx.box;have hlx:=zc HS.out.bx.box;clear cz;have HS1:=zzH (HS.out.below ((zzR _ _).alloc (zzL _) (.cells #[.int .u8 (t.bits%8)] 5)));go_wp2_with (at_builtin;refine wpList_append_own_at _ rfl (.tmp 54) (.tmp 59) 65 rfl X 5 i0 (.int .u8 0) 1 1 Tryz.underlying65 hi hz0 hz1 hz2 rfl (by decide) _ _ _ rfl HS1.out.own ⟨wz.heap.size,0,none⟩ 1 1 (zo ([UInt8.ofNat (t.bits%8).toNat])) rfl (by rw [zbf];exact(Nat.mul_one _).symm) (zgB _ #[.int .u8 (t.bits%8)] (by simp [zo];omega) _) (zbl _) (by unfold maxLen;first|omega|(simp [zi,zh];done)|(simp [zi,zh];omega)) (by rw [Nat.mul_one];first|omega|(simp [zi,zh];done)|(simp [zi,zh];omega)) HS1.out.bx.ge ?_);intro v' wz hown' hgrow hnil hloc;have HS:=zzH (HS1.out.app (l2:=[UInt8.ofNat (t.bits%8).toNat]) hown' hgrow (by first|rfl|(simp [zi]<;>omega)) (by first|rfl|(simp only [zzq4];rfl)));clear hown' hgrow hnil hloc;exact zz166
  by_cases hk:t.kind=6
  ·have hn:zw t.name=true:=by unfold okK at hokK;simp [hk]at hokK;exact hokK.2
   have:=zJ hn;have HE:Hid (zx t=88::(zE t.name++(beN 4 t.int++(beN 4 0++beN 4 t.gen)))):=zzH (by unfold zx;simp [hk]);have t1:(t.kind==1)=false:=by rw [zzq3];omega
   have t2:(t.kind==2)=false:=by rw [zzq3];omega
   have t7:(t.kind==7)=false:=by rw [zzq3];omega
   have t8:(t.kind==8)=false:=by rw [zzq3];omega
   have t9:(t.kind==9)=false:=by rw [zzq3];omega
   have t10:(t.kind==10)=false:=by rw [zzq3];omega
   have t6:(t.kind==6)=true:=by rw [beq_iff_eq];exact hk
   have hk4: ¬(t.kind=4\/t.kind=7\/t.kind=9):=by omega
   have HCE:=zzH (HZI.out hk4);clear hk4;clear hk HZI;have HS:=zzH (HS0.out.lit #[.int .u8 88] [88] 1 rfl (by simp [zo]<;>omega) (by omega));go_wp2_with fail;refine(zdW t.name _ (zJ hn)).mono ?_;rintro e w6 ⟨v6,rfl,ho,hb⟩;have HS:=zzH (HS.out.below hb);obtain⟨g,cap,cur,rfl,hg1,hg2,hg3⟩:=zbk ho (by unfold zE;simp);have HN:=zzH (zbq hg2 hg3);clear ho hb hg1 hg2 hg3;go_wp2_with (at_builtin;refine wpList_append_own_at _ rfl (.tmp 67) (.tmp 70) 65 rfl X 5 i0 (.int .u8 0) 1 1 Tryz.underlying65 hi hz0 hz1 hz2 rfl (by decide) _ _ _ rfl HS.out.own ⟨g,0,none⟩ (zE t.name).length cap (zo (zE t.name)) rfl (by rw [zbf];exact(Nat.mul_one _).symm) HN.out (zbl _) (by unfold maxLen;first|omega|(simp [zi,zh];done)|(simp [zi,zh];omega)) (by rw [Nat.mul_one];first|omega|(simp [zi,zh];done)|(simp [zi,zh];omega)) HS.out.bx.ge ?_);intro v' wz hown' hgrow hnil hloc;have HS:=zzH (HS.out.app (l2:=zE t.name) hown' hgrow (by first|rfl|(simp [zi]<;>omega)) (by first|rfl|(simp only [zzq4];rfl)));clear hown' hgrow hnil hloc;clear HN;clear c0 c1 c2 c3 c4 c5 c6 c7 c8 hlx;obtain⟨c0,c1,c2,c3,c4,c5,c6,c7,c8,cz⟩:=zg HS.out.bx.box;have hlx:=zc HS.out.bx.box;clear cz;go_wp2_with fail;refine(zb9 t.int 4 _ ok1 (by omega)).mono ?_;rintro e w7 ⟨v7,rfl,ho,hb⟩;have HS:=zzH (HS.out.below hb);obtain⟨g,cap,cur,rfl,hg1,hg2,hg3⟩:=zbk ho (by intro e;have:=congrArg List.length e;rw [zi]at this;cases this);have HN:=zzH (zbq hg2 hg3);clear ho hb hg1 hg2 hg3;go_wp2_with (at_builtin;refine wpList_append_own_at _ rfl (.tmp 72) (.tmp 75) 65 rfl X 5 i0 (.int .u8 0) 1 1 Tryz.underlying65 hi hz0 hz1 hz2 rfl (by decide) _ _ _ rfl HS.out.own ⟨g,0,none⟩ (beN 4 t.int).length cap (zo (beN 4 t.int)) rfl (by rw [zbf];exact(Nat.mul_one _).symm) HN.out (zbl _) (by unfold maxLen;first|omega|(simp [zi,zh];done)|(simp [zi,zh];omega)) (by rw [Nat.mul_one];first|omega|(simp [zi,zh];done)|(simp [zi,zh];omega)) HS.out.bx.ge ?_);intro v' wz hown' hgrow hnil hloc;have HS:=zzH (HS.out.app (l2:=beN 4 t.int) hown' hgrow (by first|rfl|(simp [zi]<;>omega)) (by first|rfl|(simp only [zzq4];rfl)));clear hown' hgrow hnil hloc;clear HN;clear c0 c1 c2 c3 c4 c5 c6 c7 c8 hlx;obtain⟨c0,c1,c2,c3,c4,c5,c6,c7,c8,cz⟩:=zg HS.out.bx.box;have hlx:=zc HS.out.bx.box;clear cz;have HS1:=zzH (HS.out.below ((zzR _ _).alloc (zzL _) (.cells #[.int .u8 0,.int .u8 0,.int .u8 0,.int .u8 0] 5)));go_wp2_with (at_builtin;refine wpList_append_own_at _ rfl (.tmp 77) (.tmp 78) 65 rfl X 5 i0 (.int .u8 0) 1 1 Tryz.underlying65 hi hz0 hz1 hz2 rfl (by decide) _ _ _ rfl HS1.out.own ⟨wz.heap.size,0,none⟩ 4 4 (zo (beN 4 0)) rfl (by rw [zbf];exact(Nat.mul_one _).symm) (zgB _ #[.int .u8 0,.int .u8 0,.int .u8 0,.int .u8 0] rfl _) (zbl _) (by unfold maxLen;first|omega|(simp [zi,zh];done)|(simp [zi,zh];omega)) (by rw [Nat.mul_one];first|omega|(simp [zi,zh];done)|(simp [zi,zh];omega)) HS1.out.bx.ge ?_);intro v' wz hown' hgrow hnil hloc;have HS:=zzH (HS1.out.app (l2:=beN 4 0) hown' hgrow (by first|rfl|(simp [zi]<;>omega)) (by first|rfl|(simp only [zzq4];rfl)));clear hown' hgrow hnil hloc;clear c0 c1 c2 c3 c4 c5 c6 c7 c8 hlx;obtain⟨c0,c1,c2,c3,c4,c5,c6,c7,c8,cz⟩:=zg HS.out.bx.box;have hlx:=zc HS.out.bx.box;clear cz;go_wp2_with fail;refine(zb9 t.gen 4 _ ok2 (by omega)).mono ?_;rintro e w8 ⟨v8,rfl,ho,hb⟩;have HS:=zzH (HS.out.below hb);obtain⟨g,cap,cur,rfl,hg1,hg2,hg3⟩:=zbk ho (by intro e;have:=congrArg List.length e;rw [zi]at this;cases this);have HN:=zzH (zbq hg2 hg3);clear ho hb hg1 hg2 hg3;go_wp2_with (at_builtin;refine wpList_append_own_at _ rfl (.tmp 80) (.tmp 83) 65 rfl X 5 i0 (.int .u8 0) 1 1 Tryz.underlying65 hi hz0 hz1 hz2 rfl (by decide) _ _ _ rfl HS.out.own ⟨g,0,none⟩ (beN 4 t.gen).length cap (zo (beN 4 t.gen)) rfl (by rw [zbf];exact(Nat.mul_one _).symm) HN.out (zbl _) (by unfold maxLen;first|omega|(simp [zi,zh];done)|(simp [zi,zh];omega)) (by rw [Nat.mul_one];first|omega|(simp [zi,zh];done)|(simp [zi,zh];omega)) HS.out.bx.ge ?_);intro v' wz hown' hgrow hnil hloc;have HS:=zzH (HS.out.app (l2:=beN 4 t.gen) hown' hgrow (by first|rfl|(simp [zi]<;>omega)) (by first|rfl|(simp only [zzq4];rfl)));exact zz167
  by_cases hk:t.kind=3
  ·have hn:zw t.name=true:=by unfold okK at hokK;simp [hk]at hokK;exact hokK.2
   have:=zJ hn;have HE:Hid (zx t=90::0::1::(zE t.name++(beN 4 t.gen++beN 4 t.int))):=zzH (by unfold zx;simp [hk]);have t1:(t.kind==1)=false:=by rw [zzq3];omega
   have t2:(t.kind==2)=false:=by rw [zzq3];omega
   have t7:(t.kind==7)=false:=by rw [zzq3];omega
   have t8:(t.kind==8)=false:=by rw [zzq3];omega
   have t9:(t.kind==9)=false:=by rw [zzq3];omega
   have t10:(t.kind==10)=false:=by rw [zzq3];omega
   have t6:(t.kind==6)=false:=by rw [zzq3];omega
   have t3:(t.kind==3)=true:=by rw [beq_iff_eq];exact hk
   have hk4: ¬(t.kind=4\/t.kind=7\/t.kind=9):=by omega
   have HCE:=zzH (HZI.out hk4);clear hk4;clear hk HZI;have HS:=zzH (HS0.out.lit #[.int .u8 90,.int .u8 0,.int .u8 1] [90,0,1] 3 rfl (by simp [zo]<;>omega) (by omega));go_wp2_with fail;refine(zdW t.name _ (zJ hn)).mono ?_;rintro e w9 ⟨v9,rfl,ho,hb⟩;have HS:=zzH (HS.out.below hb);obtain⟨g,cap,cur,rfl,hg1,hg2,hg3⟩:=zbk ho (by unfold zE;simp);have HN:=zzH (zbq hg2 hg3);clear ho hb hg1 hg2 hg3;go_wp2_with (at_builtin;refine wpList_append_own_at _ rfl (.tmp 87) (.tmp 90) 65 rfl X 5 i0 (.int .u8 0) 1 1 Tryz.underlying65 hi hz0 hz1 hz2 rfl (by decide) _ _ _ rfl HS.out.own ⟨g,0,none⟩ (zE t.name).length cap (zo (zE t.name)) rfl (by rw [zbf];exact(Nat.mul_one _).symm) HN.out (zbl _) (by unfold maxLen;first|omega|(simp [zi,zh];done)|(simp [zi,zh];omega)) (by rw [Nat.mul_one];first|omega|(simp [zi,zh];done)|(simp [zi,zh];omega)) HS.out.bx.ge ?_);intro v' wz hown' hgrow hnil hloc;have HS:=zzH (HS.out.app (l2:=zE t.name) hown' hgrow (by first|rfl|(simp [zi]<;>omega)) (by first|rfl|(simp only [zzq4];rfl)));clear hown' hgrow hnil hloc;clear HN;clear c0 c1 c2 c3 c4 c5 c6 c7 c8 hlx;obtain⟨c0,c1,c2,c3,c4,c5,c6,c7,c8,cz⟩:=zg HS.out.bx.box;have hlx:=zc HS.out.bx.box;clear cz;go_wp2_with fail;refine(zb9 t.gen 4 _ ok2 (by omega)).mono ?_;rintro e w10 ⟨v10,rfl,ho,hb⟩;have HS:=zzH (HS.out.below hb);obtain⟨g,cap,cur,rfl,hg1,hg2,hg3⟩:=zbk ho (by intro e;have:=congrArg List.length e;rw [zi]at this;cases this);have HN:=zzH (zbq hg2 hg3);clear ho hb hg1 hg2 hg3;go_wp2_with (at_builtin;refine wpList_append_own_at _ rfl (.tmp 92) (.tmp 95) 65 rfl X 5 i0 (.int .u8 0) 1 1 Tryz.underlying65 hi hz0 hz1 hz2 rfl (by decide) _ _ _ rfl HS.out.own ⟨g,0,none⟩ (beN 4 t.gen).length cap (zo (beN 4 t.gen)) rfl (by rw [zbf];exact(Nat.mul_one _).symm) HN.out (zbl _) (by unfold maxLen;first|omega|(simp [zi,zh];done)|(simp [zi,zh];omega)) (by rw [Nat.mul_one];first|omega|(simp [zi,zh];done)|(simp [zi,zh];omega)) HS.out.bx.ge ?_);intro v' wz hown' hgrow hnil hloc;have HS:=zzH (HS.out.app (l2:=beN 4 t.gen) hown' hgrow (by first|rfl|(simp [zi]<;>omega)) (by first|rfl|(simp only [zzq4];rfl)));clear hown' hgrow hnil hloc;clear HN;clear c0 c1 c2 c3 c4 c5 c6 c7 c8 hlx;obtain⟨c0,c1,c2,c3,c4,c5,c6,c7,c8,cz⟩:=zg HS.out.bx.box;have hlx:=zc HS.out.bx.box;clear cz;go_wp2_with fail;refine(zb9 t.int 4 _ ok1 (by omega)).mono ?_;rintro e w11 ⟨v11,rfl,ho,hb⟩;have HS:=zzH (HS.out.below hb);obtain⟨g,cap,cur,rfl,hg1,hg2,hg3⟩:=zbk ho (by intro e;have:=congrArg List.length e;rw [zi]at this;cases this);have HN:=zzH (zbq hg2 hg3);clear ho hb hg1 hg2 hg3;go_wp2_with (at_builtin;refine wpList_append_own_at _ rfl (.tmp 97) (.tmp 100) 65 rfl X 5 i0 (.int .u8 0) 1 1 Tryz.underlying65 hi hz0 hz1 hz2 rfl (by decide) _ _ _ rfl HS.out.own ⟨g,0,none⟩ (beN 4 t.int).length cap (zo (beN 4 t.int)) rfl (by rw [zbf];exact(Nat.mul_one _).symm) HN.out (zbl _) (by unfold maxLen;first|omega|(simp [zi,zh];done)|(simp [zi,zh];omega)) (by rw [Nat.mul_one];first|omega|(simp [zi,zh];done)|(simp [zi,zh];omega)) HS.out.bx.ge ?_);intro v' wz hown' hgrow hnil hloc;have HS:=zzH (HS.out.app (l2:=beN 4 t.int) hown' hgrow (by first|rfl|(simp [zi]<;>omega)) (by first|rfl|(simp only [zzq4];rfl)));exact zz167
  by_cases hk:t.kind=5
  ·have hn:zw t.name=true/\zw t.func=true:=by unfold okK at hokK;simp [hk]at hokK;exact hokK.1
   have:=zJ hn.1;have:=zJ hn.2;have hil:=zh3 t.arity;have HE:Hid (zx t=113::(zE t.name++(zE t.func++zbJ t.arity))):=zzH (by unfold zx;simp [hk]);have t1:(t.kind==1)=false:=by rw [zzq3];omega
   have t2:(t.kind==2)=false:=by rw [zzq3];omega
   have t7:(t.kind==7)=false:=by rw [zzq3];omega
   have t8:(t.kind==8)=false:=by rw [zzq3];omega
   have t9:(t.kind==9)=false:=by rw [zzq3];omega
   have t10:(t.kind==10)=false:=by rw [zzq3];omega
   have t6:(t.kind==6)=false:=by rw [zzq3];omega
   have t3:(t.kind==3)=false:=by rw [zzq3];omega
   have t5:(t.kind==5)=true:=by rw [beq_iff_eq];exact hk
   have hk4: ¬(t.kind=4\/t.kind=7\/t.kind=9):=by omega
   have HCE:=zzH (HZI.out hk4);clear hk4;clear hk HZI;have HS:=zzH (HS0.out.lit #[.int .u8 113] [113] 1 rfl (by simp [zo]<;>omega) (by omega));go_wp2_with fail;refine(zdW t.name _ (zJ hn.1)).mono ?_;rintro e w12 ⟨v12,rfl,ho,hb⟩;have HS:=zzH (HS.out.below hb);obtain⟨g,cap,cur,rfl,hg1,hg2,hg3⟩:=zbk ho (by unfold zE;simp);have HN:=zzH (zbq hg2 hg3);clear ho hb hg1 hg2 hg3;go_wp2_with (at_builtin;refine wpList_append_own_at _ rfl (.tmp 104) (.tmp 107) 65 rfl X 5 i0 (.int .u8 0) 1 1 Tryz.underlying65 hi hz0 hz1 hz2 rfl (by decide) _ _ _ rfl HS.out.own ⟨g,0,none⟩ (zE t.name).length cap (zo (zE t.name)) rfl (by rw [zbf];exact(Nat.mul_one _).symm) HN.out (zbl _) (by unfold maxLen;first|omega|(simp [zi,zh];done)|(simp [zi,zh];omega)) (by rw [Nat.mul_one];first|omega|(simp [zi,zh];done)|(simp [zi,zh];omega)) HS.out.bx.ge ?_);intro v' wz hown' hgrow hnil hloc;have HS:=zzH (HS.out.app (l2:=zE t.name) hown' hgrow (by first|rfl|(simp [zi]<;>omega)) (by first|rfl|(simp only [zzq4];rfl)));clear hown' hgrow hnil hloc;clear HN;clear c0 c1 c2 c3 c4 c5 c6 c7 c8 hlx;obtain⟨c0,c1,c2,c3,c4,c5,c6,c7,c8,cz⟩:=zg HS.out.bx.box;have hlx:=zc HS.out.bx.box;clear cz;go_wp2_with fail;refine(zdW t.func _ (zJ hn.2)).mono ?_;rintro e w13 ⟨v13,rfl,ho,hb⟩;have HS:=zzH (HS.out.below hb);obtain⟨g,cap,cur,rfl,hg1,hg2,hg3⟩:=zbk ho (by unfold zE;simp);have HN:=zzH (zbq hg2 hg3);clear ho hb hg1 hg2 hg3;go_wp2_with (at_builtin;refine wpList_append_own_at _ rfl (.tmp 109) (.tmp 112) 65 rfl X 5 i0 (.int .u8 0) 1 1 Tryz.underlying65 hi hz0 hz1 hz2 rfl (by decide) _ _ _ rfl HS.out.own ⟨g,0,none⟩ (zE t.func).length cap (zo (zE t.func)) rfl (by rw [zbf];exact(Nat.mul_one _).symm) HN.out (zbl _) (by unfold maxLen;first|omega|(simp [zi,zh];done)|(simp [zi,zh];omega)) (by rw [Nat.mul_one];first|omega|(simp [zi,zh];done)|(simp [zi,zh];omega)) HS.out.bx.ge ?_);intro v' wz hown' hgrow hnil hloc;have HS:=zzH (HS.out.app (l2:=zE t.func) hown' hgrow (by first|rfl|(simp [zi]<;>omega)) (by first|rfl|(simp only [zzq4];rfl)));clear hown' hgrow hnil hloc;clear HN;clear c0 c1 c2 c3 c4 c5 c6 c7 c8 hlx;obtain⟨c0,c1,c2,c3,c4,c5,c6,c7,c8,cz⟩:=zg HS.out.bx.box;have hlx:=zc HS.out.bx.box;clear cz;go_wp2_with fail;refine(zgu t.arity _ ok5).mono ?_;rintro e w14 ⟨v14,rfl,ho,hb⟩;have HS:=zzH (HS.out.below hb);obtain⟨g,cap,cur,rfl,hg1,hg2,hg3⟩:=zbk ho (by unfold zbJ zgU;split<;>(try split)<;>simp);have HN:=zzH (zbq hg2 hg3);clear ho hb hg1 hg2 hg3;go_wp2_with (at_builtin;refine wpList_append_own_at _ rfl (.tmp 114) (.tmp 117) 65 rfl X 5 i0 (.int .u8 0) 1 1 Tryz.underlying65 hi hz0 hz1 hz2 rfl (by decide) _ _ _ rfl HS.out.own ⟨g,0,none⟩ (zbJ t.arity).length cap (zo (zbJ t.arity)) rfl (by rw [zbf];exact(Nat.mul_one _).symm) HN.out (zbl _) (by unfold maxLen;first|omega|(simp [zi,zh];done)|(simp [zi,zh];omega)) (by rw [Nat.mul_one];first|omega|(simp [zi,zh];done)|(simp [zi,zh];omega)) HS.out.bx.ge ?_);intro v' wz hown' hgrow hnil hloc;have HS:=zzH (HS.out.app (l2:=zbJ t.arity) hown' hgrow (by first|rfl|(simp [zi]<;>omega)) (by first|rfl|(simp only [zzq4];rfl)));exact zz167
  by_cases hk:t.kind=4
  ·have hn:wi t.arity 0 16=true/\zw t.name=true/\t.items.length<=200:=by unfold okK at hokK;simp [hk]at hokK;exact⟨hokK.1.2,hokK.1.1.2,hokK.2⟩
   have:=zJ hn.2.1;have ha:=zeQ hn.1;obtain⟨ha1,ha2⟩:=ha;have hi2:=hn.2.2;have hn21:=hn.2.1;clear hn hokK;have HE:Hid (zx t=112::UInt8.ofNat t.arity.toNat::(beN 2 t.int++(UInt8.ofNat t.items.length::(zE t.name++beN 4 t.gen)))):=zzH (by unfold zx;simp [hk]);have t1:(t.kind==1)=false:=by rw [zzq3];omega
   have t2:(t.kind==2)=false:=by rw [zzq3];omega
   have t7:(t.kind==7)=false:=by rw [zzq3];omega
   have t8:(t.kind==8)=false:=by rw [zzq3];omega
   have t9:(t.kind==9)=false:=by rw [zzq3];omega
   have t10:(t.kind==10)=false:=by rw [zzq3];omega
   have t6:(t.kind==6)=false:=by rw [zzq3];omega
   have t3:(t.kind==3)=false:=by rw [zzq3];omega
   have t5:(t.kind==5)=false:=by rw [zzq3];omega
   have t4:(t.kind==4)=true:=by rw [beq_iff_eq];exact hk
   clear hk HZI;go_wp2_with fail;have HSD:Hid (RCx X t so c w W.drew):=zzH (HS0.out.below (zzR _ _).drew);have HSA:Hid (RSt X t so c w (.slice (some ⟨W.heap.size,0,none⟩) 2 2) [112,UInt8.ofNat t.arity.toNat] ((W.alloc (.cells #[.int .u8 112,.int .u8 t.arity] 5)).drew)):=zzH ((HS0.out.lit #[.int .u8 112,.int .u8 t.arity] [112,UInt8.ofNat t.arity.toNat] 2 rfl (by simp [zo];omega) (by omega)).below (zzR _ _).drew);have hwa:IntKind.u8.wrap t.arity=t.arity:=by rw [IntKind.wrap_u8];omega
   have KA:Hid ((W.alloc (.cells #[.int .u8 112,.int .u8 t.arity] 5)).drew.cell? ⟨X,5,none⟩=some (.int .i64 t.arity)/\(W.alloc (.cells #[.int .u8 112,.int .u8 t.arity] 5)).drew.cell? ⟨X,1,none⟩=some (.int .i64 t.int)):=zzH ⟨(zg HSA.out.bx.box).2.2.2.2.2.1,(zg HSA.out.bx.box).2.1⟩;have HA0:Hid (0<=t.arity/\t.arity<256):=zzH ⟨by omega,by omega⟩
   first|go_region_held3 (fun w'=>w'.cell? ⟨X,5,none⟩=some (.int .i64 t.arity)/\w'.cell? ⟨X,1,none⟩=some (.int .i64 t.int)) (first|exact KD.out|exact KC.out|exact KB.out|exact KA.out|exact⟨c5,c1⟩)
    (first
     |(go_at_call 134;refine(zb9 t.int 2 _ ok1 (by omega)).mono ?_;rintro e w21 ⟨v21,rfl,ho,hb⟩;(first|have HSL:=zzH (HSA.out.below hb)|have HSB:=zzH (HSD.out.below hb));obtain⟨g,cap,cur,rfl,hg1,hg2,hg3⟩:=zbk ho (by intro e;have:=congrArg List.length e;rw [zi]at this;cases this);refine zzK3 (zbq hg2 hg3) hg2 hg3 fun HN HG HG3=>?_;clear ho hb hg1 hg2 hg3;(first|have KB:=zzH (And.intro (zg HSL.out.bx.box).2.2.2.2.2.1 (zg HSL.out.bx.box).2.1)|(have KB:=zzH (And.intro (zg HSB.out.box).2.2.2.2.2.1 (zg HSB.out.box).2.1);have HSL:=zzH (HSB.out.lit #[.int .u8 112,.int .u8 t.arity] [112,UInt8.ofNat t.arity.toNat] 2 rfl (by have:=HA0.out;simp [zo];omega) (by omega));have KC:=zzH (And.intro (zg HSL.out.bx.box).2.2.2.2.2.1 (zg HSL.out.bx.box).2.1);have HN:=zzH (zbq ((((zzR w21.heap.size w21).alloc (zzL _) (.cells #[.int .u8 112,.int .u8 t.arity] 5)).block g (zc HG.out)).trans HG.out) HG3.out))))
     |(refine step_append_lies _ (by rfl) (.tmp 124) (.tmp 127) 65 (by rfl) X 5 i0 (.int .u8 0) 1 1 Tryz.underlying65 hi hz0 hz1 hz2 (by rfl) (by decide) _ _ _ (by rfl) HSL.out.own ⟨g,0,none⟩ _ cap (zo (beN 2 t.int)) (by rfl) (by rw [zbf];exact(Nat.mul_one _).symm) HN.out (zbl _) (by rw [zi];omega) (by unfold maxLen;simp [zi]) (by simp [zi]) HSL.out.bx.ge _ rfl ?_;intro g2 cap2 w22 hown' hgrow hat hlt;have HS:=zzH (HSL.out.app hown' hgrow rfl rfl);have KD:=zzH (And.intro (zg HS.out.bx.box).2.2.2.2.2.1 (zg HS.out.bx.box).2.1);clear hown' hgrow hat hlt))|fail
   all_goals
    clear c0 c1 c2 c3 c4 c5 c6 c7 c8 hlx;obtain⟨c0,c1,c2,c3,c4,c5,c6,c7,c8,cz⟩:=zg HS.out.bx.box;have hlx:=zc HS.out.bx.box;clear cz;clear KA KB KD;have HS1:=zzH (HS.out.below ((zzR _ _).alloc (zzL _) (.cells #[.int .u8 t.items.length] 5)));go_wp2_with (at_builtin;refine wpList_append_own_at _ rfl (.tmp 129) (.tmp 134) 65 rfl X 5 i0 (.int .u8 0) 1 1 Tryz.underlying65 hi hz0 hz1 hz2 rfl (by decide) _ _ _ rfl HS1.out.own ⟨w22.heap.size,0,none⟩ 1 1 (zo ([UInt8.ofNat t.items.length])) rfl (by rw [zbf];exact(Nat.mul_one _).symm) (zgB _ #[.int .u8 t.items.length] (by simp [zo];omega) _) (zbl _) (by unfold maxLen;first|omega|(simp [zi,zh];done)|(simp [zi,zh];omega)) (by rw [Nat.mul_one];first|omega|(simp [zi,zh];done)|(simp [zi,zh];omega)) HS1.out.bx.ge ?_);intro v' wz hown' hgrow hnil hloc;have HS:=zzH (HS1.out.app (l2:=[UInt8.ofNat t.items.length]) hown' hgrow (by first|rfl|(simp [zi]<;>omega)) (by first|rfl|(simp only [zzq4];rfl)));clear hown' hgrow hnil hloc;clear c0 c1 c2 c3 c4 c5 c6 c7 c8 hlx;obtain⟨c0,c1,c2,c3,c4,c5,c6,c7,c8,cz⟩:=zg HS.out.bx.box;have hlx:=zc HS.out.bx.box;clear cz;go_wp2_with fail;refine(zdW t.name _ (zJ hn21)).mono ?_;rintro e w15 ⟨v15,rfl,ho,hb⟩;have HS:=zzH (HS.out.below hb);obtain⟨g,cap,cur,rfl,hg1,hg2,hg3⟩:=zbk ho (by unfold zE;simp);have HN:=zzH (zbq hg2 hg3);clear ho hb hg1 hg2 hg3;go_wp2_with (at_builtin;refine wpList_append_own_at _ rfl (.tmp 136) (.tmp 139) 65 rfl X 5 i0 (.int .u8 0) 1 1 Tryz.underlying65 hi hz0 hz1 hz2 rfl (by decide) _ _ _ rfl HS.out.own ⟨g,0,none⟩ (zE t.name).length cap (zo (zE t.name)) rfl (by rw [zbf];exact(Nat.mul_one _).symm) HN.out (zbl _) (by unfold maxLen;first|omega|(simp [zi,zh];done)|(simp [zi,zh];omega)) (by rw [Nat.mul_one];first|omega|(simp [zi,zh];done)|(simp [zi,zh];omega)) HS.out.bx.ge ?_);intro v' wz hown' hgrow hnil hloc;have HS:=zzH (HS.out.app (l2:=zE t.name) hown' hgrow (by first|rfl|(simp [zi]<;>omega)) (by first|rfl|(simp only [zzq4];rfl)));clear hown' hgrow hnil hloc;clear HN;clear c0 c1 c2 c3 c4 c5 c6 c7 c8 hlx;obtain⟨c0,c1,c2,c3,c4,c5,c6,c7,c8,cz⟩:=zg HS.out.bx.box;have hlx:=zc HS.out.bx.box;clear cz;go_wp2_with fail;refine(zb9 t.gen 4 _ ok2 (by omega)).mono ?_;rintro e w16 ⟨v16,rfl,ho,hb⟩;have HS:=zzH (HS.out.below hb);obtain⟨g,cap,cur,rfl,hg1,hg2,hg3⟩:=zbk ho (by intro e;have:=congrArg List.length e;rw [zi]at this;cases this);have HN:=zzH (zbq hg2 hg3);clear ho hb hg1 hg2 hg3;go_wp2_with (at_builtin;refine wpList_append_own_at _ rfl (.tmp 141) (.tmp 144) 65 rfl X 5 i0 (.int .u8 0) 1 1 Tryz.underlying65 hi hz0 hz1 hz2 rfl (by decide) _ _ _ rfl HS.out.own ⟨g,0,none⟩ (beN 4 t.gen).length cap (zo (beN 4 t.gen)) rfl (by rw [zbf];exact(Nat.mul_one _).symm) HN.out (zbl _) (by unfold maxLen;first|omega|(simp [zi,zh];done)|(simp [zi,zh];omega)) (by rw [Nat.mul_one];first|omega|(simp [zi,zh];done)|(simp [zi,zh];omega)) HS.out.bx.ge ?_);intro v' wz hown' hgrow hnil hloc;have HS:=zzH (HS.out.app (l2:=beN 4 t.gen) hown' hgrow (by first|rfl|(simp [zi]<;>omega)) (by first|rfl|(simp only [zzq4];rfl)));clear hown' hgrow hnil hloc;clear HN;go_wp2_with fail;go_meet
    case rel=>
     have HQ:=HS.out
     try simp only [zzq4]at HQ
     rw [HE.out];exact zzH HQ
  exact absurd hokK (by rw [zeD (by omega)];decide)
 case rest=>
  rename_i v3 wx;have HS:=hcut;clear hcut;clear c0 c1 c2 c3 c4 c5 c6 c7 c8 hlx HZI hokK hhl;obtain⟨c0,c1,c2,c3,c4,c5,c6,c7,c8,cz⟩:=zg HS.out.bx.box;have hlx:=zc HS.out.bx.box;clear cz;go_wp2_with fail;go_loopw [3,4] (fun v3 iv wr=> ∃(k:Nat) (l:List UInt8),k<=t.items.length/\iv= .int .i64 k/\Hid (CE=l++(t.items.drop k).flatMap (zF f))/\Hid (RSt X t so c w v3 l wr)) (fun _ iv _=>t.items.length-(intOf iv).toNat)
  case atStart=>exact⟨0,_,zzZ _,rfl,HT,HS⟩
  case round=>
   obtain⟨k,l,hk,rfl,HV,HW⟩:=hrel;rename World=>wr
   clear c0 c1 c2 c3 c4 c5 c6 c7 c8 hlx;obtain⟨c0,c1,c2,c3,c4,c5,c6,c7,c8,cz⟩:=zg HW.out.bx.box;have hlx:=zc HW.out.bx.box;clear cz;by_cases hlt:k<t.items.length
   ·obtain⟨b2,off,ai,ci,hao,hb2,q0,q1,q2,q3,q4,q5,q6,q7,q8,hne,hcall⟩:=HREC.out k wr hlt HW.out.bx.bel
    subst hao;have HV2:Hid (CE=(l++zF f t.items[k])++(t.items.drop (k+1)).flatMap (zF f)):=zzH (by rw [HV.out,List.drop_eq_getElem_cons hlt,List.flatMap_cons,zzq4])
    have hlen2:l.length+(zF f t.items[k]).length<=17592186044416:=by
     have h1:=HTL.out;rw [HV2.out,zzq1,zzq1]at h1;omega
    have hcl:=hcall (by omega);have HCL:=zzH hcl;have HNE:=zzH hne;clear hcl hcall hne;generalize zF f t.items[k]=cx at *;generalize t.items[k]=u at *;go_wp2_with fail;refine HCL.out.mono ?_;rintro e w5 ⟨v5,rfl,ho,hb⟩;have HS:=zzH (HW.out.below hb);obtain⟨g,cap,cur,rfl,hg1,hg2,hg3⟩:=zbk ho HNE.out;have HN:=zzH (zbq hg2 hg3);clear ho hb hg1 hg2 hg3;go_wp2_with (at_builtin;refine wpList_append_own_at _ rfl (.tmp 153) (.tmp 159) 65 rfl X 5 i0 (.int .u8 0) 1 1 Tryz.underlying65 hi hz0 hz1 hz2 rfl (by decide) _ _ _ rfl HS.out.own ⟨g,0,none⟩ cx.length cap (zo (cx)) rfl (by rw [zbf];exact(Nat.mul_one _).symm) HN.out (zbl _) (by unfold maxLen;first|omega|(simp [zi,zh];done)|(simp [zi,zh];omega)) (by rw [Nat.mul_one];first|omega|(simp [zi,zh];done)|(simp [zi,zh];omega)) HS.out.bx.ge ?_);intro v' wz hown' hgrow hnil hloc;have HS:=zzH (HS.out.app (l2:=cx) hown' hgrow (by first|rfl|(simp [zi]<;>omega)) (by first|rfl|(simp only [zzq4];rfl)));clear hown' hgrow hnil hloc;go_wp2_with fail;go_roundw
    case rel=>exact⟨k+1,_,by omega,by go_num,HV2,HS⟩
    case measure=>simp [intOf];omega
   ·have HV2:Hid (CE=l):=zzH (by rw [HV.out,zzq8 (by omega)];simp)
    go_wp2;go_ret;exact⟨_,rfl,by rw [HV2.out,HXZ.out];exact HW.out.own,by rw [HXZ.out];exact HW.out.bx.bel⟩
theorem zpk (f:Nat):zkF f:=by
 induction f with
 |zero=>exact zim 0 (fun f' h=>absurd h (by omega))
 |succ f ih=>exact zim (f+1) (fun f' h=>by
   have:f'=f:=by omega
   subst this;exact ih)
theorem zmK (f:Nat) (t:Tm) (so:zzA) (c:Nat) (w:World) (hsl:SlAt w 9 (TmAt w f) so t.items) (hok:t.Ok) (hcap:(zG (f+1) t:Int)<=1152921504606846976) (hv:zA (f+1) t=true):
  Calls Tryz.prog 42 #[.agg (zzt t so c)] w fun e w'=>e= .returned (.tuple #[.string ⟨(zc9 (f+1) t).toArray⟩,.int .i64 0])/\Below w.heap.size w w':=by
 unfold zzt;have hbx:=zbM w t so c;have hba:Below w.heap.size w (w.alloc (.cells (zzt t so c) 55)):=zzE _ _;have hva:=zfn f t so c (w.alloc (.cells (zzt t so c) 55)) (hsl.tms hba) hok hcap;rw [hv]at hva;have hfm:zj (f+1) t=true:=by unfold zA at hv;rw [zzq6]at hv;exact hv.1
 have hlen:=ze5 hv;have hlen2:(zF (f+1) t).length<=4400001:=by have:(zc9 (f+1) t).length=(zF (f+1) t).length+1:=rfl;omega
 have HC:Hid (∀(wx:World),Below w.heap.size w wx->Calls Tryz.prog 88 #[.agg #[.int .i64 t.kind,.int .i64 t.int,.int .i64 t.gen,.string t.name,.string t.func,.int .i64 t.arity,.slice so t.items.length c,.string t.bytes,.int .i64 t.bits]] wx (zfU wx (zF (f+1) t))):=zzH (fun wx hx=>zpk f t so c wx (hsl.tms hx) hok hfm (by omega));refine zzK5 (zk3 f t hfm) hva hbx hba hlen2 fun HNE HVA HBX HBA HL2=>?_;have HP:Hid ((⟨#[131]⟩:ByteArray)++⟨(zF (f+1) t).toArray⟩=⟨(zc9 (f+1) t).toArray⟩):=zzH (zB [131] _);clear hsl hok hcap hv hbx hba hva hfm hlen hlen2;generalize zF (f+1) t=C at *;generalize zc9 (f+1) t=PE at *;have hadd:=fun wx=>run_string_add_sum (P:=Tryz.prog) wx ⟨#[131]⟩ ⟨C.toArray⟩ (by rw [bsz C];have:=HL2.out;show 1+_<=_;omega)
 go_in;go_upto_region 1 with fail;have hq:=HBX.out;generalize w.alloc (.cells (zzt t so c) 55)=Wa at *;generalize hBz:w.heap.size=B at *;have HBZ:=zzH hBz;clear hBz;obtain⟨c0,c1,c2,c3,c4,c5,c6,c7,c8,cz⟩:=zg hq;have hlx:=zc hq;clear cz hq;go_wp2_with fail;refine HVA.out.mono ?_;rintro e w1 ⟨rfl,hb1⟩;have HB1:Hid (Below B w w1):=zzH (HBA.out.trans (hb1.mono (by have:=HBA.out.size;have:=HBZ.out;omega)));have hq1:=(hb1.block B hlx).trans HBX.out;clear hb1 hlx c0 c1 c2 c3 c4 c5 c6 c7 c8;obtain⟨c0,c1,c2,c3,c4,c5,c6,c7,c8,cz⟩:=zg hq1;have hlx:=zc hq1;clear cz hq1;go_wp2_with fail;refine(HC.out _ HB1.out).mono ?_;rintro e w2 ⟨v,rfl,ho,hb⟩;obtain⟨g,cap,cur,rfl,hg1,hg2,hg3⟩:=zbk ho HNE.out;have hcv:=zgG (cap:=cap) C (zbq hg2 hg3);have HF:Hid (Below B w w2):=zzH (HB1.out.trans (hb.mono (by have:=HB1.out.size;have:=HBZ.out;omega)));clear ho hb hg1 hg2 hg3 c0 c1 c2 c3 c4 c5 c6 c7 c8 hlx;go_wp2;go_ret2;exact⟨congrArg (fun s=>Ending.returned (.tuple #[.string s,.int .i64 0])) HP.out,by rw [HBZ.out];exact HF.out⟩
theorem zoq {t:Tm} (hv:zA 2000 t=true):(zbU 2000 t).size<4398046511104:=by
 have h:=ze5 hv;show(zc9 2000 t).toArray.size<_;rw [List.size_toArray];omega
theorem zra {u:RUnit} (hc:zZ 2000 u=0) (ho: ∀t∈u.lits,OkF 2000 t):zdy (zbO (zbU 2000) u)=some u:=
 zpz hc ho (fun t ht=>zoq (zds (zeF hc).2.1 t ht))
theorem zop {u:RUnit} (hc:zZ 2000 u=0) (hl:u.lits.length<=400):(zbO (zbU 2000) u).length<=60000000000:=by
 obtain⟨ht,htb,hi⟩:=zeF hc;have hv:=zds htb;have a1:=zcC u.mdl;have a2:=zv u.vsn.toNat;have a3:=zv u.lits.length
 have a4:=zec (fun t=>zD (zbU 2000 t)) 4400100 u.lits (fun t h=>by
  have a:=zcC (zbU 2000 t);have b:=ze5 (hv t h);have c:(zbU 2000 t).size=(zc9 2000 t).length:=by show(zc9 2000 t).toArray.size=_;rw [List.size_toArray]
  omega)
 have a5:=zv u.funcs.length;have a6:=zec zbY 80 u.funcs (fun g h=>by have:=zoE g;have:=(ht.func g h).1;omega);have a7:=zv u.funs.length;have a8:=zec zbW 30 u.funs fun g _=>zrl g
 have a9:=zv u.code.length
 have a0:=zec zbw 100000 u.code (fun x h=>by
  obtain⟨k,hk,rfl⟩:=List.getElem_of_mem h;exact zgx (zig ht (hi k hk)))
 have b1:=ht.mdl;have b2:=ht.funcs;have b3:=ht.funs;have b4:=ht.code1;unfold zbO;simp only [zzq1,List.length_nil];generalize(u.lits.flatMap fun t=>zD (zbU 2000 t)).length=z1 at *;generalize(u.funcs.flatMap zbY).length=z2 at *;generalize(u.funs.flatMap zbW).length=z3 at *;generalize(u.code.flatMap zbw).length=z4 at *;omega
theorem zob {f:Nat} {u:RUnit} (hc:zZ f u=0):zZ 2000 u=0/\zbO (zbU f) u=zbO (zbU 2000) u:=by
 obtain⟨-,htb,-⟩:=zeF hc;have hv:=zds htb
 have ht2:zM 2000 u=true:=by
  unfold zM at htb ⊢;rw [zzq6,zzq6]at htb ⊢;exact⟨htb.1,zzp.2 fun t ht=>(zg0 (hv t ht)).1,htb.2.2⟩
 refine⟨?_,?_⟩
 ·unfold zZ at hc ⊢
  rw [if_pos htb]at hc;rw [if_pos ht2];exact hc
 ·unfold zbO
  congr 3
  have: ∀(l:List Tm),(∀t∈l,zA f t=true)->l.flatMap (fun t=>zD (zbU f t))=l.flatMap (fun t=>zD (zbU 2000 t)):=by
   intro l
   induction l with
   |nil=>exact fun _=>rfl
   |cons t l ih=>
    intro h;rw [List.flatMap_cons,List.flatMap_cons,ih fun x hx=>h x (List.mem_cons_of_mem _ hx)];congr 2;unfold zbU zc9;rw [(zg0 (h t (List.mem_cons_self ..))).2.1]
  rw [this u.lits hv]
theorem TmAt.okF {w:World}: ∀{f:Nat} {cs:List Value} {t:Tm},TmAt w f cs t->OkF f t
 |0,_,_,h=>h
 |f+1,_,t,⟨⟨ao,c,e,hs⟩,ho⟩=>⟨ho,fun x hx=>by
   obtain⟨j,hj,rfl⟩:=List.getElem_of_mem hx;obtain⟨b,off,-,-,hr⟩:=hs.row hj;obtain⟨cs',-,-,hR⟩:=hr j hj;exact TmAt.okF hR⟩
theorem zp2 {w:World} {f:Nat} {lo:zzA} {ts:List Tm} (h:SlAt w 9 (TmAt w f) lo ts): ∀t∈ts,OkF f t:=fun t ht=>by
 obtain⟨j,hj,rfl⟩:=List.getElem_of_mem ht;obtain⟨b,off,-,-,hr⟩:=h.row hj;obtain⟨cs',-,-,hR⟩:=hr j hj;exact hR.okF
theorem zdR {w:World} {b:Nat} {v0 v1 v2 v3 v4 v5 v6 v7 v8 v9:Value} {t:TypeId} (h:w.heap[b]?=some (.cells #[v0,v1,v2,v3,v4,v5,v6,v7,v8,v9] t (0,0))):
  w.cell? ⟨b,0,none⟩=some v0/\w.cell? ⟨b,1,none⟩=some v1/\w.cell? ⟨b,2,none⟩=some v2/\w.cell? ⟨b,3,none⟩=some v3/\w.cell? ⟨b,4,none⟩=some v4/\w.cell? ⟨b,5,none⟩=some v5/\w.cell? ⟨b,6,none⟩=some v6/\w.cell? ⟨b,7,none⟩=some v7/\w.cell? ⟨b,8,none⟩=some v8/\w.cell? ⟨b,9,none⟩=some v9:=by
 have hc:=fun j=>zzq2 w b j _ _ _ h
 exact⟨hc 0,hc 1,hc 2,hc 3,hc 4,hc 5,hc 6,hc 7,hc 8,hc 9⟩
theorem zc2 {w:World} {b:Nat} {v0 v1 v2 v3 v4 v5:Value} {t:TypeId} (h:w.heap[b]?=some (.cells #[v0,v1,v2,v3,v4,v5] t (0,0))):
  w.cell? ⟨b,0,none⟩=some v0/\w.cell? ⟨b,1,none⟩=some v1/\w.cell? ⟨b,2,none⟩=some v2/\w.cell? ⟨b,3,none⟩=some v3/\w.cell? ⟨b,4,none⟩=some v4/\w.cell? ⟨b,5,none⟩=some v5:=by
 have hc:=fun j=>zzq2 w b j _ _ _ h
 exact⟨hc 0,hc 1,hc 2,hc 3,hc 4,hc 5⟩
theorem znI (x:RIns) (so co go so' co' go':zzA) (sc cc gc sc' cc' gc':Nat) (w:World) (s1:SlAt w 2 zdY so x.src) (s2:SlAt w 2 zdc co x.cases) (s3:SlAt w 6 zdZ go x.segs) (t1:SlAt w 2 zdY so' x.src) (t2:SlAt w 2 zdc co' x.cases) (t3:SlAt w 6 zdZ go' x.segs)
  (r1:x.src.length<=maxLen) (r2:x.cases.length<=maxLen) (r3:x.segs.length<=maxLen):
  Calls Tryz.prog 21 #[.agg (zzi x so sc co cc go gc),.agg (zzi x so' sc' co' cc' go' gc')] w fun e w'=>e= .returned (.bool true)/\Below w.heap.size w w':=by
 unfold zzi;unfold maxLen at r1 r2 r3;have hbe:=zU w (.cells #[.int .i64 x.op,.int .i64 x.dst.kind,.int .i64 x.dst.n,.slice so x.src.length sc,.int .i64 x.to,.int .i64 x.n,.int .i64 x.live,.string x.name,.slice co x.cases.length cc,.slice go x.segs.length gc] 36) (.cells #[.int .i64 x.op,.int .i64 x.dst.kind,.int .i64 x.dst.n,.slice so' x.src.length sc',.int .i64 x.to,.int .i64 x.n,.int .i64 x.live,.string x.name,.slice co' x.cases.length cc',.slice go' x.segs.length gc'] 36);have e0:=zfD w (.cells #[.int .i64 x.op,.int .i64 x.dst.kind,.int .i64 x.dst.n,.slice so x.src.length sc,.int .i64 x.to,.int .i64 x.n,.int .i64 x.live,.string x.name,.slice co x.cases.length cc,.slice go x.segs.length gc] 36) (.cells #[.int .i64 x.op,.int .i64 x.dst.kind,.int .i64 x.dst.n,.slice so' x.src.length sc',.int .i64 x.to,.int .i64 x.n,.int .i64 x.live,.string x.name,.slice co' x.cases.length cc',.slice go' x.segs.length gc'] 36);have e1:=zeR w (.cells #[.int .i64 x.op,.int .i64 x.dst.kind,.int .i64 x.dst.n,.slice so x.src.length sc,.int .i64 x.to,.int .i64 x.n,.int .i64 x.live,.string x.name,.slice co x.cases.length cc,.slice go x.segs.length gc] 36) (.cells #[.int .i64 x.op,.int .i64 x.dst.kind,.int .i64 x.dst.n,.slice so' x.src.length sc',.int .i64 x.to,.int .i64 x.n,.int .i64 x.live,.string x.name,.slice co' x.cases.length cc',.slice go' x.segs.length gc'] 36);refine zzK9 (s1.mono hbe fun _ _ h=>h) (s2.mono hbe fun _ _ h=>h) (s3.mono hbe fun _ _ h=>h) (t1.mono hbe fun _ _ h=>h) (t2.mono hbe fun _ _ h=>h) (t3.mono hbe fun _ _ h=>h) e0 e1 hbe fun S1 S2 S3 T1 T2 T3 E0 E1 HBE=>?_;clear s1 s2 s3 t1 t2 t3 e0 e1 hbe;go_in;go_wp2_with fail;generalize World.alloc _ _=Wx at *;have HX0:=zzH (show w.heap.size<=Wx.heap.size from HBE.out.size);go_loopw [5] (fun iv wr=> ∃k:Nat,k<=x.src.length/\iv= .int .i64 k/\Below Wx.heap.size Wx wr) (fun iv _=>x.src.length-(intOf iv).toNat)
 case atStart=>exact⟨0,zzZ _,rfl,zzR _ _⟩
 case round=>
  obtain⟨k,hk,rfl,hbr⟩:=hrel;rename World=>wr
  have HBR:=zzH hbr;clear hbr;obtain⟨q0,q1,q2,q3,q4,q5,q6,q7,q8,q9⟩:=zdR ((HBR.out.block _ (zc E0.out)).trans E0.out);obtain⟨p0,p1,p2,p3,p4,p5,p6,p7,p8,p9⟩:=zdR ((HBR.out.block _ (zc E1.out)).trans E1.out);have hl0:w.heap.size<wr.heap.size:=zzW (zc E0.out) HBR.out.size;have hl1:w.heap.size+1<wr.heap.size:=zzW (zc E1.out) HBR.out.size;by_cases hlt:k<x.src.length
  ·obtain⟨b1,o1,hao,hb1,c0,c1,-,-⟩:=(S1.out.mono HBR.out fun _ _ h=>h).arg hlt
   obtain⟨b2,o2,hbo,hb2,d0,d1,-,-⟩:=(T1.out.mono HBR.out fun _ _ h=>h).arg hlt;subst hao;subst hbo;generalize x.src[k]=a at *;exact zz202
  ·go_wp2_with fail
   go_loopw [6] (fun iv wr=> ∃k:Nat,k<=x.cases.length/\iv= .int .i64 k/\Below Wx.heap.size Wx wr) (fun iv _=>x.cases.length-(intOf iv).toNat)
   case atStart=>exact⟨0,zzZ _,rfl,HBR.out⟩
   case round=>
    clear HBR q0 q1 q2 q3 q4 q5 q6 q7 q8 q9 p0 p1 p2 p3 p4 p5 p6 p7 p8 p9 hl0 hl1 hk hlt;obtain⟨k,hk,rfl,hbr⟩:=hrel;rename World=>wr
    have HBR:=zzH hbr;clear hbr;obtain⟨q0,q1,q2,q3,q4,q5,q6,q7,q8,q9⟩:=zdR ((HBR.out.block _ (zc E0.out)).trans E0.out);obtain⟨p0,p1,p2,p3,p4,p5,p6,p7,p8,p9⟩:=zdR ((HBR.out.block _ (zc E1.out)).trans E1.out);have hl0:w.heap.size<wr.heap.size:=zzW (zc E0.out) HBR.out.size;have hl1:w.heap.size+1<wr.heap.size:=zzW (zc E1.out) HBR.out.size;by_cases hlt:k<x.cases.length
    ·obtain⟨b1,o1,hao,hb1,c0,c1,-,-⟩:=(S2.out.mono HBR.out fun _ _ h=>h).case hlt
     obtain⟨b2,o2,hbo,hb2,d0,d1,-,-⟩:=(T2.out.mono HBR.out fun _ _ h=>h).case hlt;subst hao;subst hbo;generalize x.cases[k]=a at *;exact zz202
    ·go_wp2_with fail
     go_loopw [7] (fun iv wr=> ∃k:Nat,k<=x.segs.length/\iv= .int .i64 k/\Below Wx.heap.size Wx wr) (fun iv _=>x.segs.length-(intOf iv).toNat)
     case atStart=>exact⟨0,zzZ _,rfl,HBR.out⟩
     case round=>
      clear HBR q0 q1 q2 q3 q4 q5 q6 q7 q8 q9 p0 p1 p2 p3 p4 p5 p6 p7 p8 p9 hl0 hl1 hk hlt;obtain⟨k,hk,rfl,hbr⟩:=hrel;rename World=>wr
      have HBR:=zzH hbr;clear hbr;obtain⟨q0,q1,q2,q3,q4,q5,q6,q7,q8,q9⟩:=zdR ((HBR.out.block _ (zc E0.out)).trans E0.out);obtain⟨p0,p1,p2,p3,p4,p5,p6,p7,p8,p9⟩:=zdR ((HBR.out.block _ (zc E1.out)).trans E1.out);have hl0:w.heap.size<wr.heap.size:=zzW (zc E0.out) HBR.out.size;have hl1:w.heap.size+1<wr.heap.size:=zzW (zc E1.out) HBR.out.size;by_cases hlt:k<x.segs.length
      ·obtain⟨b1,o1,hao,hb1,c0,c1,c2,c3,c4,c5,-,-,-,-,-⟩:=(S3.out.mono HBR.out fun _ _ h=>h).seg hlt
       obtain⟨b2,o2,hbo,hb2,d0,d1,d2,d3,d4,d5,-,-,-,-,-⟩:=(T3.out.mono HBR.out fun _ _ h=>h).seg hlt;subst hao;subst hbo;generalize x.segs[k]=a at *;exact zz202
      ·go_wp2_with fail
       go_ret;exact⟨rfl,HBE.out.trans (HBR.out.mono HX0.out)⟩
theorem zoR (f:Nat) (u:RUnit) (lo fo go co lo' fo' go' co':zzA) (lc fc gc cc lc' fc' gc' cc':Nat) (w:World) (h1:UP w u lo fo go co) (h2:UP w u lo' fo' go' co') (l1:SlAt w 9 (TmAt w (f+1)) lo u.lits) (l2:SlAt w 9 (TmAt w (f+1)) lo' u.lits):
  Calls Tryz.prog 9 #[.agg (zzu u lo lc fo fc go gc co cc),.agg (zzu u lo' lc' fo' fc' go' gc' co' cc')] w fun e w'=>e= .returned (.bool true)/\Below w.heap.size w w':=by
 unfold zzu;have g1:=h1.litsLen;have g2:=h1.funcsLen;have g3:=h1.funsLen;have g4:=h1.codeLen;have hbe:=zU w (.cells #[.string u.mdl,.int .i64 u.vsn,.slice lo u.lits.length lc,.slice fo u.funcs.length fc,.slice go u.funs.length gc,.slice co u.code.length cc] 27) (.cells #[.string u.mdl,.int .i64 u.vsn,.slice lo' u.lits.length lc',.slice fo' u.funcs.length fc',.slice go' u.funs.length gc',.slice co' u.code.length cc'] 27);have e0:=zfD w (.cells #[.string u.mdl,.int .i64 u.vsn,.slice lo u.lits.length lc,.slice fo u.funcs.length fc,.slice go u.funs.length gc,.slice co u.code.length cc] 27) (.cells #[.string u.mdl,.int .i64 u.vsn,.slice lo' u.lits.length lc',.slice fo' u.funcs.length fc',.slice go' u.funs.length gc',.slice co' u.code.length cc'] 27);have e1:=zeR w (.cells #[.string u.mdl,.int .i64 u.vsn,.slice lo u.lits.length lc,.slice fo u.funcs.length fc,.slice go u.funs.length gc,.slice co u.code.length cc] 27) (.cells #[.string u.mdl,.int .i64 u.vsn,.slice lo' u.lits.length lc',.slice fo' u.funcs.length fc',.slice go' u.funs.length gc',.slice co' u.code.length cc'] 27);have S1:=zzH (l1.tms hbe);have S2:=zzH (h1.below hbe).funcs;have S3:=zzH (h1.below hbe).funs;have S4:=zzH (h1.below hbe).code;have T1:=zzH (l2.tms hbe);have T2:=zzH (h2.below hbe).funcs;have T3:=zzH (h2.below hbe).funs;have T4:=zzH (h2.below hbe).code;refine zzK3 e0 e1 hbe fun E0 E1 HBE=>?_;clear h1 h2 l1 l2 e0 e1 hbe;go_in;go_wp2_with fail;generalize World.alloc _ _=Wx at *;have HX0:=zzH (show w.heap.size<=Wx.heap.size from HBE.out.size);go_loopw [5] (fun iv wr=> ∃k:Nat,k<=u.lits.length/\iv= .int .i64 k/\Below Wx.heap.size Wx wr) (fun iv _=>u.lits.length-(intOf iv).toNat)
 case atStart=>exact⟨0,zzZ _,rfl,zzR _ _⟩
 case round=>
  obtain⟨k,hk,rfl,hbr⟩:=hrel;rename World=>wr
  have HBR:=zzH hbr;clear hbr;obtain⟨q0,q1,q2,q3,q4,q5⟩:=zc2 ((HBR.out.block _ (zc E0.out)).trans E0.out);obtain⟨p0,p1,p2,p3,p4,p5⟩:=zc2 ((HBR.out.block _ (zc E1.out)).trans E1.out);have hl0:w.heap.size<wr.heap.size:=zzW (zc E0.out) HBR.out.size;have hl1:w.heap.size+1<wr.heap.size:=zzW (zc E1.out) HBR.out.size;by_cases hlt:k<u.lits.length
  ·obtain⟨b1,o1,ai,ci,hao,hb1,c0,c1,c2,c3,c4,c5,c6,c7,c8,hit,hok⟩:=(S1.out.tms HBR.out).tm hlt
   obtain⟨b2,o2,bi,di,hbo,hb2,d0,d1,d2,d3,d4,d5,d6,d7,d8,hit2,-⟩:=(T1.out.tms HBR.out).tm hlt;subst hao;subst hbo;have hSM:=zoU f u.lits[k] ai bi ci di wr.drew (hit.tms (zzR _ _).drew) (hit2.tms (zzR _ _).drew) hok.2.2.2.2.2.2.1;clear hit hit2 hok;generalize hx:u.lits[k]=x at *;clear hx;go_wp2_with fail;have hs0:=hl0;have hs1:=hl1
   first|go_region_held3 (fun w'=>(w'.cell? ⟨w.heap.size,2,none⟩=some (.slice (some ⟨b1,o1,none⟩) u.lits.length lc)/\w'.cell? ⟨w.heap.size+1,2,none⟩=some (.slice (some ⟨b2,o2,none⟩) u.lits.length lc'))/\(w'.cell? ⟨b1,o1+k*9,none⟩=some (.int .i64 x.kind)/\w'.cell? ⟨b1,o1+k*9+1,none⟩=some (.int .i64 x.int)/\w'.cell? ⟨b1,o1+k*9+2,none⟩=some (.int .i64 x.gen)/\w'.cell? ⟨b1,o1+k*9+3,none⟩=some (.string x.name)/\w'.cell? ⟨b1,o1+k*9+4,none⟩=some (.string x.func)/\w'.cell? ⟨b1,o1+k*9+5,none⟩=some (.int .i64 x.arity)/\w'.cell? ⟨b1,o1+k*9+6,none⟩=some (.slice ai x.items.length ci)/\w'.cell? ⟨b1,o1+k*9+7,none⟩=some (.string x.bytes)/\w'.cell? ⟨b1,o1+k*9+8,none⟩=some (.int .i64 x.bits))/\(w'.cell? ⟨b2,o2+k*9,none⟩=some (.int .i64 x.kind)/\w'.cell? ⟨b2,o2+k*9+1,none⟩=some (.int .i64 x.int)/\w'.cell? ⟨b2,o2+k*9+2,none⟩=some (.int .i64 x.gen)/\w'.cell? ⟨b2,o2+k*9+3,none⟩=some (.string x.name)/\w'.cell? ⟨b2,o2+k*9+4,none⟩=some (.string x.func)/\w'.cell? ⟨b2,o2+k*9+5,none⟩=some (.int .i64 x.arity)/\w'.cell? ⟨b2,o2+k*9+6,none⟩=some (.slice bi x.items.length di)/\w'.cell? ⟨b2,o2+k*9+7,none⟩=some (.string x.bytes)/\w'.cell? ⟨b2,o2+k*9+8,none⟩=some (.int .i64 x.bits))) (((repeat' apply And.intro)<;>assumption)) ((go_at_call 20;refine hSM.mono ?_;rintro e w5 ⟨rfl,hb5⟩;have s0:=(hb5.cell (p:=⟨b1,o1+k*9,none⟩) hb1).trans c0;have s1:=(hb5.cell (p:=⟨b1,o1+k*9+1,none⟩) hb1).trans c1;have s2:=(hb5.cell (p:=⟨b1,o1+k*9+2,none⟩) hb1).trans c2;have s3:=(hb5.cell (p:=⟨b1,o1+k*9+3,none⟩) hb1).trans c3;have s4:=(hb5.cell (p:=⟨b1,o1+k*9+4,none⟩) hb1).trans c4;have s5:=(hb5.cell (p:=⟨b1,o1+k*9+5,none⟩) hb1).trans c5;have s6:=(hb5.cell (p:=⟨b1,o1+k*9+6,none⟩) hb1).trans c6;have s7:=(hb5.cell (p:=⟨b1,o1+k*9+7,none⟩) hb1).trans c7;have s8:=(hb5.cell (p:=⟨b1,o1+k*9+8,none⟩) hb1).trans c8;have t0:=(hb5.cell (p:=⟨b2,o2+k*9,none⟩) hb2).trans d0;have t1:=(hb5.cell (p:=⟨b2,o2+k*9+1,none⟩) hb2).trans d1;have t2:=(hb5.cell (p:=⟨b2,o2+k*9+2,none⟩) hb2).trans d2;have t3:=(hb5.cell (p:=⟨b2,o2+k*9+3,none⟩) hb2).trans d3;have t4:=(hb5.cell (p:=⟨b2,o2+k*9+4,none⟩) hb2).trans d4;have t5:=(hb5.cell (p:=⟨b2,o2+k*9+5,none⟩) hb2).trans d5;have t6:=(hb5.cell (p:=⟨b2,o2+k*9+6,none⟩) hb2).trans d6;have t7:=(hb5.cell (p:=⟨b2,o2+k*9+7,none⟩) hb2).trans d7;have t8:=(hb5.cell (p:=⟨b2,o2+k*9+8,none⟩) hb2).trans d8;have r0:=(hb5.cell (p:=⟨w.heap.size,2,none⟩) hs0).trans q2;have r1:=(hb5.cell (p:=⟨w.heap.size+1,2,none⟩) hs1).trans p2))|fail
   exact zz201
  ·go_wp2_with fail
   go_loopw [6] (fun iv wr=> ∃k:Nat,k<=u.funcs.length/\iv= .int .i64 k/\Below Wx.heap.size Wx wr) (fun iv _=>u.funcs.length-(intOf iv).toNat)
   case atStart=>exact⟨0,zzZ _,rfl,HBR.out⟩
   case round=>
    clear HBR q0 q1 q2 q3 q4 q5 p0 p1 p2 p3 p4 p5 hl0 hl1 hk hlt;obtain⟨k,hk,rfl,hbr⟩:=hrel;rename World=>wr
    have HBR:=zzH hbr;clear hbr;obtain⟨q0,q1,q2,q3,q4,q5⟩:=zc2 ((HBR.out.block _ (zc E0.out)).trans E0.out);obtain⟨p0,p1,p2,p3,p4,p5⟩:=zc2 ((HBR.out.block _ (zc E1.out)).trans E1.out);have hl0:w.heap.size<wr.heap.size:=zzW (zc E0.out) HBR.out.size;have hl1:w.heap.size+1<wr.heap.size:=zzW (zc E1.out) HBR.out.size;by_cases hlt:k<u.funcs.length
    ·obtain⟨b1,o1,hao,hb1,c0,c1,c2,c3,-,-,-⟩:=(S2.out.mono HBR.out fun _ _ h=>h).func hlt
     obtain⟨b2,o2,hbo,hb2,d0,d1,d2,d3,-,-,-⟩:=(T2.out.mono HBR.out fun _ _ h=>h).func hlt;subst hao;subst hbo;generalize u.funcs[k]=a at *;exact zz202
    ·go_wp2_with fail
     go_loopw [7] (fun iv wr=> ∃k:Nat,k<=u.funs.length/\iv= .int .i64 k/\Below Wx.heap.size Wx wr) (fun iv _=>u.funs.length-(intOf iv).toNat)
     case atStart=>exact⟨0,zzZ _,rfl,HBR.out⟩
     case round=>
      clear HBR q0 q1 q2 q3 q4 q5 p0 p1 p2 p3 p4 p5 hl0 hl1 hk hlt;obtain⟨k,hk,rfl,hbr⟩:=hrel;rename World=>wr
      have HBR:=zzH hbr;clear hbr;obtain⟨q0,q1,q2,q3,q4,q5⟩:=zc2 ((HBR.out.block _ (zc E0.out)).trans E0.out);obtain⟨p0,p1,p2,p3,p4,p5⟩:=zc2 ((HBR.out.block _ (zc E1.out)).trans E1.out);have hl0:w.heap.size<wr.heap.size:=zzW (zc E0.out) HBR.out.size;have hl1:w.heap.size+1<wr.heap.size:=zzW (zc E1.out) HBR.out.size;by_cases hlt:k<u.funs.length
      ·obtain⟨b1,o1,hao,hb1,c0,c1,c2,-,-,-⟩:=(S3.out.mono HBR.out fun _ _ h=>h).fn hlt
       obtain⟨b2,o2,hbo,hb2,d0,d1,d2,-,-,-⟩:=(T3.out.mono HBR.out fun _ _ h=>h).fn hlt;subst hao;subst hbo;generalize u.funs[k]=a at *;exact zz202
      ·go_wp2_with fail
       go_loopw [8] (fun iv wr=> ∃k:Nat,k<=u.code.length/\iv= .int .i64 k/\Below Wx.heap.size Wx wr) (fun iv _=>u.code.length-(intOf iv).toNat)
       case atStart=>exact⟨0,zzZ _,rfl,HBR.out⟩
       case round=>
        clear HBR q0 q1 q2 q3 q4 q5 p0 p1 p2 p3 p4 p5 hl0 hl1 hk hlt;obtain⟨k,hk,rfl,hbr⟩:=hrel;rename World=>wr
        have HBR:=zzH hbr;clear hbr;obtain⟨q0,q1,q2,q3,q4,q5⟩:=zc2 ((HBR.out.block _ (zc E0.out)).trans E0.out);obtain⟨p0,p1,p2,p3,p4,p5⟩:=zc2 ((HBR.out.block _ (zc E1.out)).trans E1.out);have hl0:w.heap.size<wr.heap.size:=zzW (zc E0.out) HBR.out.size;have hl1:w.heap.size+1<wr.heap.size:=zzW (zc E1.out) HBR.out.size;by_cases hlt:k<u.code.length
        ·obtain⟨b1,o1,so,sc,co2,cc2,go2,gc2,hao,hb1,c0,c1,c2,c3,c4,c5,c6,c7,c8,c9,s1,s2,s3,r1,r2,r3,r4,r5,r6,r7,r8,r9,r10⟩:=(S4.out.mono HBR.out fun _ _ h=>h.below HBR.out).ins hlt
         obtain⟨b2,o2,so',sc',co2',cc2',go2',gc2',hbo,hb2,d0,d1,d2,d3,d4,d5,d6,d7,d8,d9,t1,t2,t3,-⟩:=(T4.out.mono HBR.out fun _ _ h=>h.below HBR.out).ins hlt;subst hao;subst hbo;have hdr:Below wr.heap.size wr wr.drew:=(zzR _ _).drew;have hSM:=znI u.code[k] so co2 go2 so' co2' go2' sc cc2 gc2 sc' cc2' gc2' wr.drew (s1.mono hdr fun _ _ h=>h) (s2.mono hdr fun _ _ h=>h) (s3.mono hdr fun _ _ h=>h) (t1.mono hdr fun _ _ h=>h) (t2.mono hdr fun _ _ h=>h) (t3.mono hdr fun _ _ h=>h) r4 r9 r10;clear s1 s2 s3 t1 t2 t3 r1 r2 r3 r4 r5 r6 r7 r8 r9 r10 hdr;generalize hx:u.code[k]=x at *;clear hx;go_wp2_with fail;have hs0:=hl0;have hs1:=hl1
         first|go_region_held3 (fun w'=>(w'.cell? ⟨w.heap.size,5,none⟩=some (.slice (some ⟨b1,o1,none⟩) u.code.length cc)/\w'.cell? ⟨w.heap.size+1,5,none⟩=some (.slice (some ⟨b2,o2,none⟩) u.code.length cc'))/\(w'.cell? ⟨b1,o1+k*10,none⟩=some (.int .i64 x.op)/\w'.cell? ⟨b1,o1+k*10+1,none⟩=some (.int .i64 x.dst.kind)/\w'.cell? ⟨b1,o1+k*10+2,none⟩=some (.int .i64 x.dst.n)/\w'.cell? ⟨b1,o1+k*10+3,none⟩=some (.slice so x.src.length sc)/\w'.cell? ⟨b1,o1+k*10+4,none⟩=some (.int .i64 x.to)/\w'.cell? ⟨b1,o1+k*10+5,none⟩=some (.int .i64 x.n)/\w'.cell? ⟨b1,o1+k*10+6,none⟩=some (.int .i64 x.live)/\w'.cell? ⟨b1,o1+k*10+7,none⟩=some (.string x.name)/\w'.cell? ⟨b1,o1+k*10+8,none⟩=some (.slice co2 x.cases.length cc2)/\w'.cell? ⟨b1,o1+k*10+9,none⟩=some (.slice go2 x.segs.length gc2))/\(w'.cell? ⟨b2,o2+k*10,none⟩=some (.int .i64 x.op)/\w'.cell? ⟨b2,o2+k*10+1,none⟩=some (.int .i64 x.dst.kind)/\w'.cell? ⟨b2,o2+k*10+2,none⟩=some (.int .i64 x.dst.n)/\w'.cell? ⟨b2,o2+k*10+3,none⟩=some (.slice so' x.src.length sc')/\w'.cell? ⟨b2,o2+k*10+4,none⟩=some (.int .i64 x.to)/\w'.cell? ⟨b2,o2+k*10+5,none⟩=some (.int .i64 x.n)/\w'.cell? ⟨b2,o2+k*10+6,none⟩=some (.int .i64 x.live)/\w'.cell? ⟨b2,o2+k*10+7,none⟩=some (.string x.name)/\w'.cell? ⟨b2,o2+k*10+8,none⟩=some (.slice co2' x.cases.length cc2')/\w'.cell? ⟨b2,o2+k*10+9,none⟩=some (.slice go2' x.segs.length gc2'))) (((repeat' apply And.intro)<;>assumption)) ((go_at_call 21;refine hSM.mono ?_;rintro e w5 ⟨rfl,hb5⟩;have s0:=(hb5.cell (p:=⟨b1,o1+k*10,none⟩) hb1).trans c0;have s1:=(hb5.cell (p:=⟨b1,o1+k*10+1,none⟩) hb1).trans c1;have s2:=(hb5.cell (p:=⟨b1,o1+k*10+2,none⟩) hb1).trans c2;have s3:=(hb5.cell (p:=⟨b1,o1+k*10+3,none⟩) hb1).trans c3;have s4:=(hb5.cell (p:=⟨b1,o1+k*10+4,none⟩) hb1).trans c4;have s5:=(hb5.cell (p:=⟨b1,o1+k*10+5,none⟩) hb1).trans c5;have s6:=(hb5.cell (p:=⟨b1,o1+k*10+6,none⟩) hb1).trans c6;have s7:=(hb5.cell (p:=⟨b1,o1+k*10+7,none⟩) hb1).trans c7;have s8:=(hb5.cell (p:=⟨b1,o1+k*10+8,none⟩) hb1).trans c8;have s9:=(hb5.cell (p:=⟨b1,o1+k*10+9,none⟩) hb1).trans c9;have t0:=(hb5.cell (p:=⟨b2,o2+k*10,none⟩) hb2).trans d0;have t1:=(hb5.cell (p:=⟨b2,o2+k*10+1,none⟩) hb2).trans d1;have t2:=(hb5.cell (p:=⟨b2,o2+k*10+2,none⟩) hb2).trans d2;have t3:=(hb5.cell (p:=⟨b2,o2+k*10+3,none⟩) hb2).trans d3;have t4:=(hb5.cell (p:=⟨b2,o2+k*10+4,none⟩) hb2).trans d4;have t5:=(hb5.cell (p:=⟨b2,o2+k*10+5,none⟩) hb2).trans d5;have t6:=(hb5.cell (p:=⟨b2,o2+k*10+6,none⟩) hb2).trans d6;have t7:=(hb5.cell (p:=⟨b2,o2+k*10+7,none⟩) hb2).trans d7;have t8:=(hb5.cell (p:=⟨b2,o2+k*10+8,none⟩) hb2).trans d8;have t9:=(hb5.cell (p:=⟨b2,o2+k*10+9,none⟩) hb2).trans d9;have r0:=(hb5.cell (p:=⟨w.heap.size,5,none⟩) hs0).trans q5;have r1:=(hb5.cell (p:=⟨w.heap.size+1,5,none⟩) hs1).trans p5))|fail
         exact zz201
        ·go_wp2_with fail
         go_ret;exact⟨rfl,HBE.out.trans (HBR.out.mono HX0.out)⟩
end Go.Proofs.YtijekmeocadkeaaGreatDoor
