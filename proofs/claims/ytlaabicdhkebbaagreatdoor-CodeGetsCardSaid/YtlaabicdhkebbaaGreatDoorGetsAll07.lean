/- part 7 -/
import Derived.Test.YtlaabicdhkebbaaGreatDoorGetsAll05
import Derived.Test.YtlaabicdhkebbaaGreatDoorGetsAll06
namespace Go.Proofs.YtlaabicdhkebbaaGreatDoor
open Go.RowKit
set_option linter.unusedVariables false
set_option linter.unusedSimpArgs false
set_option maxRecDepth 100000
set_option maxHeartbeats 80000000
theorem zhu (T:Nat->List UInt8->Option ((Tm × Nat) × List UInt8)) (n p:Nat) (l:List UInt8):zcb T (n+1) p l=(T p l).bind fun x=>(zcb T n x.1.2 x.2).bind fun y=>some ((x.1.1::y.1.1,y.1.2),y.2):=rfl
theorem zcF {a b c:World} {r:Nat} {o:Option Nat} (h:a.grownBy b (some r)) (h':b.grownBy c o) (ho: ∀k,o=some k->a.heap.size<=k):a.grownBy c (some r):=
 ⟨h'.os.trans h.os,h'.tape.trans h.tape,h'.output.trans h.output,zzY h.size h'.size,fun k hk hn=>(h'.block k (zzW hk h.size) (fun e=>by have:=ho k e.symm;omega)).trans (h.block k hk hn)⟩
theorem zia (f:Nat) (HT:zmp f):zgf f:=by
 intro r s l0 p0 n w h hp hpf hn;generalize hQ:zoc r s f w (zca (zA f) n p0 l0)=Q at *;have HQ:=zzH hQ;clear hQ;have HTT:=zzH HT;clear HT;by_cases c:n<=2000
 case neg=>
  have hle:decide ((n:Int)<=2000)=false:=zzD (by omega);have HD:Hid (zca (zA f) n p0 l0=none):=zzH (if_neg c);go_in;go_wp2_with (go_at_call 90;refine(zcC _ _).mono ?_;rintro e w1 ⟨rfl,rfl⟩);exact zz86
 have hle:decide ((n:Int)<=2000)=true:=zzT (by omega);have HD:Hid (zca (zA f) n p0 l0=zcb (zA f) n p0 l0):=zzH (if_pos c);have hrw:=h.lt;go_in;go_wp2_with (go_at_call 90;refine(zbg _ _).mono ?_;rintro e w1 ⟨rfl,rfl⟩);clear hle;go_loopw [1,5] (fun nv lv wr=> ∃(k p:Nat) (l:List UInt8) (ts:List Tm),nv= .int .i64 k/\k+ts.length=n/\p<=2000/\2000<=p+f/\Hid (zcb (zA f) n p0 l0=(zcb (zA f) k p l).bind fun y=>some ((ts++y.1.1,y.1.2),y.2))/\RdL r s l p wr/\AccAt w.heap.size f lv ts wr/\w.grownBy wr (some r)) (fun nv _ _=>(intOf nv).toNat)
 case atStart=>exact⟨n,p0,l0,[],rfl,rfl,hp,hpf,zzH (by cases zcb (zA f) n p0 l0<;>rfl),h,AccAt.nil _ _ _,zb5 _ _⟩
 case round=>
  obtain⟨k,p,l,ts,rfl,hk,hp1,hp2,HI,hrd,hacc,hg⟩:=hrel
  cases k with
  |zero=>
   obtain⟨ao,cap,rfl,hsl⟩:=hacc.sl;have HS:=zzH hsl;clear hsl;go_wp2_with fail;rw [<-HQ.out,HD.out,HI.out];exact⟨⟨_,_,by rw [List.append_nil],by rw [List.append_nil];exact HS.out⟩,hrd,hg⟩
  |succ k=>
   obtain⟨ao,cap0,rfl,-⟩:=hacc.sl;have hpos:((k+1:Nat):Int)>0:=by omega
   have HT:=HTT.out r s l p wr hrd hp1 hp2;rcases h1:zA f p l with _|⟨⟨t,p2⟩,l2⟩
   ·rw [h1]at HT
    go_wp2_with (go_at_call 89;refine HT.mono ?_;rintro e w1 ⟨rfl,hg1⟩);exact⟨rfl,by rw [<-HQ.out,HD.out,HI.out,zhu,h1];exact⟨rfl,zh hg hg1⟩⟩
   rw [h1]at HT;have hok:=zfY f p l t p2 l2 h1 hp1 hrd.len;obtain⟨i0,hi,hz0,hz1,hz2⟩:=info_parts zjL
   go_wp2_with (first
    |(go_at_call 89;refine HT.mono ?_;rintro e w1 ⟨⟨so,c,rfl,htm⟩,hr1,hg1⟩;obtain⟨xs,ho,hR⟩:=((hacc.grown hg1 hrw).below ((zzR _ _).alloc (zzL _) (.cells #[.int .i64 t.kind,.int .i64 t.int,.int .i64 t.gen,.string t.name,.string t.func,.int .i64 t.arity,.slice so t.items.length c,.string t.bytes,.int .i64 t.bits] 47))).own)
    |(at_builtin;refine wpList_append_lies _ rfl (.tmp 14) (.tmp 17) 23 rfl w.heap.size 47 i0 _ 9 112 Tryz.underlying23 hi hz0 hz1 hz2 rfl (by decide) _ ts.length xs rfl ho ⟨w1.heap.size,0,none⟩ 1 1 (tmL t so c) rfl rfl (World.news_of_block (heap_alloc_new _ _)) (by simp [tmL,Value.oneCell']) (by decide) (by unfold maxLen;omega) (by omega) (by have:=hg.size;have:=hg1.size;simp;omega) _ rfl ?_;intro g cap w2 ho2 hg2 hat hlt))
   have ho0: ∀k,(Value.slice ao ts.length cap0).ownBlock=some k->w.heap.size<=k/\k<wr.heap.size:=by
    exact zz87
   have hb1:=(zzR w1.heap.size w1).alloc (zzL _) (.cells #[.int .i64 t.kind,.int .i64 t.int,.int .i64 t.gen,.string t.name,.string t.func,.int .i64 t.arity,.slice so t.items.length c,.string t.bytes,.int .i64 t.bits] 47)
   have hacc2:AccAt w.heap.size f (.slice (some ⟨g,0,none⟩) (ts.length+1) cap) (ts++ [t]) w2:=
    hacc.app (fun k e=>(ho0 k e).2) ho hR (htm.below hb1) hg.size hg2 (fun k e=>by
     have e:g=k:=Option.some.inj e;subst e;exact hat.imp id fun h=>Nat.le_of_eq h.symm) ho2
   have hr2:RdL r s l2 p2 w2:=by
    obtain⟨a,h1,h2⟩:=hr1.below hb1;exact⟨a,(hg2.block r h1.lt fun e=>by have:=(ho0 r e.symm).1;omega).trans h1,h2⟩
   have hgw:w.grownBy w2 (some r):=zcF (zC (zh hg hg1) (hb1.mono (zzY hg.size hg1.size))) hg2 (fun k e=>(ho0 k e).1);go_wp2_with fail;go_roundw
   case rel=>exact⟨k,p2,l2,ts++ [t],by go_num,by rw [zzq1];simp;omega,hok.2.2.1,by omega,zzH (by
    rw [HI.out,zhu,h1,zzq0]
    cases zcb (zA f) k p2 l2 with
    |none=>rfl
    |some y=>simp only [zzX5]),hr2,hacc2,hgw⟩
   case measure=>simp [intOf]
def OffB (X:Nat) (w w':World):Prop:=w.heap.size<=w'.heap.size/\ ∀b,b≠X->w'.heap[b]?=w.heap[b]?
theorem OffB.set (X:Nat) (w:World) (j:Nat) (v:Value):OffB X w (w.setCell ⟨X,j,none⟩ v):=
 ⟨by simp [World.setCell],fun b hb=>zzq7 _ _ _ _ (by simpa using hb)⟩
theorem OffB.trans {X:Nat} {a b c:World} (h:OffB X a b) (h':OffB X b c):OffB X a c:=⟨zzY h.1 h'.1,fun k hk=>(h'.2 k hk).trans (h.2 k hk)⟩
theorem OffB.nine (X:Nat) (wx:World) (v0 v1 v2 v3 v4 v5 v6 v7 v8:Value):
  OffB X wx (((((((((wx.setCell ⟨X,0,none⟩ v0).setCell ⟨X,1,none⟩ v1).setCell ⟨X,2,none⟩ v2).setCell ⟨X,3,none⟩ v3).setCell ⟨X,4,none⟩ v4).setCell ⟨X,5,none⟩ v5).setCell ⟨X,6,none⟩ v6).setCell ⟨X,7,none⟩ v7).setCell ⟨X,8,none⟩ v8):=
 ((((((((OffB.set X wx 0 v0).trans (OffB.set X _ 1 v1)).trans (OffB.set X _ 2 v2)).trans (OffB.set X _ 3 v3)).trans (OffB.set X _ 4 v4)).trans (OffB.set X _ 5 v5)).trans (OffB.set X _ 6 v6)).trans (OffB.set X _ 7 v7)).trans (OffB.set X _ 8 v8)
theorem SlIn.off {w w':World} {X B B' f:Nat} {ao:Option Addr} {ts:List Tm} (h:SlIn w (B<= ·) 9 (TmIn w (B<= ·) f) ao ts) (ho:OffB X w w') (hX:X<B) (hB:B'<=B):SlIn w' (B'<= ·) 9 (TmIn w' (B'<= ·) f) ao ts:=
 h.kept ho.1 (fun b hb _=>ho.2 b (by omega)) (fun b hb _=>zzY hB hb) fun _ _ h=>h.kept ho.1 (fun b hb _=>ho.2 b (by omega)) (fun b hb _=>zzY hB hb)
theorem StO.fin {w0:World} {r:Nat} {s:ByteArray} {l:List UInt8} {p X:Nat} {wx:World} (h:StO w0 r s l p X wx) (v0 v1 v2 v3 v4 v5 v6 v7 v8:Value):
  RdL r s l p (((((((((wx.setCell ⟨X,0,none⟩ v0).setCell ⟨X,1,none⟩ v1).setCell ⟨X,2,none⟩ v2).setCell ⟨X,3,none⟩ v3).setCell ⟨X,4,none⟩ v4).setCell ⟨X,5,none⟩ v5).setCell ⟨X,6,none⟩ v6).setCell ⟨X,7,none⟩ v7).setCell ⟨X,8,none⟩ v8) /\
  w0.grownBy (((((((((wx.setCell ⟨X,0,none⟩ v0).setCell ⟨X,1,none⟩ v1).setCell ⟨X,2,none⟩ v2).setCell ⟨X,3,none⟩ v3).setCell ⟨X,4,none⟩ v4).setCell ⟨X,5,none⟩ v5).setCell ⟨X,6,none⟩ v6).setCell ⟨X,7,none⟩ v7).setCell ⟨X,8,none⟩ v8) (some r):=by
 have hX:=h.hX;have hr:=h.hr;have hb:=zb1 (B:=X) (zzL X) (zzR X wx) v0 v1 v2 v3 v4 v5 v6 v7 v8;obtain⟨a,ha,hl⟩:=h.rd;refine⟨⟨a,(hb.block r (by omega)).trans ha,hl⟩,zC h.gr ?_⟩;rw [<-hX];exact hb
theorem StO.below {w0:World} {r:Nat} {s:ByteArray} {l:List UInt8} {p X:Nat} {wx wy:World} (h:StO w0 r s l p X wx) (hb:Below wx.heap.size wx wy):StO w0 r s l p X wy:=
 ⟨h.rd.below hb,zC h.gr (hb.mono h.gr.size),(hb.block X (zc h.x)).trans h.x,h.hr,h.hX⟩
theorem RdL.parts {r:Nat} {s:ByteArray} {l:List UInt8} {p:Nat} {w:World} (h:RdL r s l p w):w.cell? ⟨r,2,none⟩=some (.int .i64 p)/\w.frozen? ⟨r,2,none⟩=false:=by
 obtain⟨a,h,-⟩:=h;exact⟨h.cells.2.2.1,h.cells.2.2.2.2⟩
theorem RdAt.parts {r:Nat} {s:ByteArray} {a p:Nat} {w:World} (h:RdAt r s a p w):RdAt r s a (p+1) (w.setCell ⟨r,2,none⟩ (.int .i64 ((p:Int)+1))):=by
 have:=zzS w r 2 _ _ (.int .i64 ((p:Int)+1)) h;exact this.trans (by rw [show((p:Int)+1)=((p+1:Nat):Int)by omega];rfl)
theorem StO.parts {w0:World} {r:Nat} {s:ByteArray} {l:List UInt8} {p X:Nat} {wx:World} (h:StO w0 r s l p X wx):StO w0 r s l (p+1) X (wx.setCell ⟨r,2,none⟩ (.int .i64 ((p:Int)+1))):=by
 have hX:=h.hX;have hr:=h.hr;obtain⟨a,ha,hl⟩:=h.rd;exact⟨⟨a,ha.parts,hl⟩,zh h.gr (zG _ r 2 _),(zzq7 _ _ _ _ (by simp;omega)).trans h.x,hr,hX⟩
theorem zhy (n:Int) (w:World):Calls Tryz.prog 113 #[.int .i64 n] w fun e w'=>e= .returned (.agg #[.int .i64 1,.int .i64 n,.int .i64 0,.string ⟨#[]⟩,.string ⟨#[]⟩,.int .i64 0,.slice none 0 0,.string ⟨#[]⟩,.int .i64 0])/\Below w.heap.size w w':=by
 exact zz88
theorem zpv (w:World):Calls Tryz.prog 118 #[] w fun e w'=>e= .returned (.agg #[.int .i64 8,.int .i64 0,.int .i64 0,.string ⟨#[]⟩,.string ⟨#[]⟩,.int .i64 0,.slice none 0 0,.string ⟨#[]⟩,.int .i64 0])/\Below w.heap.size w w':=by
 exact zz88
theorem zpI (f r:Nat) (s:ByteArray) (l:List UInt8) (p:Nat) (w:World) (h:RdL r s l p w) (hx: ∃l1,zK l=some (113,l1)):
  Calls Tryz.prog 120 #[.pointer (some ⟨r,0,none⟩)] w (zbI r s (f+1) w (zc3 (zA f) p l)):=by
 generalize hQ:zbI r s (f+1) w (zc3 (zA f) p l)=Q at *;have HQ:=zzH hQ;clear hQ;obtain⟨l1,hx⟩:=hx;have HD:Hid (zc3 (zA f) p l=(zcc l1).bind fun x=>(zcc x.2).bind fun y=>(zK y.2).bind fun z=>if z.1=97 then(zK z.2).bind fun q=>some ((tmK 5 (name:=x.1) (func:=y.1) (arity:=q.1),p),q.2)else none):=zzH (by unfold zc3;rw [hx,zzq0];exact if_pos rfl);have HB:=fun wx (hh:RdL r s l p wx)=>zbU r s l p wx hh
 rw [hx]at HB;have S0:=StO.start h;go_in;go_wp2_with (go_at_call 112;refine(HB _ (h.grown_new _)).mono ?_;rintro e v0 ⟨rfl,hr0,hg0⟩;have S00:=S0.call hr0 hg0;clear S0 hr0 hg0 HB);have S0:=S00;clear S00;have H1:=zg3 r s l1 p _ S0.rd;rcases h1:zcc l1 with _|⟨nm,l2⟩
 ·exact zz90
 rw [h1]at H1 HD;rw [zzq0]at HD;go_wp2_with (go_at_call 119;refine H1.mono ?_;rintro e v1 ⟨rfl,hr1,hg1⟩;have S1:=S0.call hr1 hg1;clear S0 H1 hr1 hg1);have S1n:=S1.new #[.int .i64 5,.int .i64 0,.int .i64 0,.string nm,.string ⟨#[]⟩,.int .i64 0,.slice none 0 0,.string ⟨#[]⟩,.int .i64 0];clear S1;generalize v1.alloc _=u1w at *;generalize v1.heap.size=Y at *;have H2:=zg3 r s l2 p _ S1n.rd;rcases h2:zcc l2 with _|⟨fm,l3⟩
 ·rw [h2]at H2 HD
  go_wp2_with (go_at_call 119;refine H2.mono ?_;rintro e v2 ⟨rfl,hg2⟩);exact⟨rfl,by rw [<-HQ.out,HD.out];exact⟨rfl,zh S1n.gr hg2⟩⟩
 rw [h2]at H2 HD;rw [zzq0]at HD;go_wp2_with (go_at_call 119;refine H2.mono ?_;rintro e v2 ⟨rfl,hr2,hg2⟩;have S2:=S1n.call hr2 hg2;clear S1n H2 hr2 hg2;obtain⟨q0,q1,q2,q3,q4,q5,q6,q7,q8,z0,z1,z2,z3,z4,z5,z6,z7,z8⟩:=zf S2.y);have S2s:=S2.set 4 (.string fm);clear S2 q0 q1 q2 q3 q4 q5 q6 q7 q8 z0 z1 z2 z3 z4 z5 z6 z7 z8;generalize v2.setCell _ _=u2w at *;have H3:=zbU r s l3 p _ S2s.rd;rcases h3:zK l3 with _|⟨n,l4⟩
 ·exact zz89
 rw [h3]at H3 HD;rw [zzq0]at HD;by_cases c:n=97
 case neg=>
  rw [if_neg c]at HD;have hne:((n:Int)==97)=false:=zzB.2 (by omega);go_wp2_with (go_at_call 112;refine H3.mono ?_;rintro e v3 ⟨rfl,hr3,hg3⟩);go_wp2_with (go_at_call 90;refine(zcC _ _).mono ?_;rintro e d3 ⟨rfl,rfl⟩);exact⟨rfl,by rw [<-HQ.out,HD.out];exact⟨rfl,zh S2s.gr hg3⟩⟩
 subst c;rw [if_pos rfl]at HD;go_wp2_with (go_at_call 112;refine H3.mono ?_;rintro e v3 ⟨rfl,hr3,hg3⟩;have S3:=S2s.call hr3 hg3;clear S2s H3 hr3 hg3);go_wp2_with (go_at_call 90;refine(zbg _ _).mono ?_;rintro e d3 ⟨rfl,rfl⟩);have H4:=zbU r s l4 p _ S3.rd;rcases h4:zK l4 with _|⟨m,l5⟩
 ·rw [h4]at H4 HD
  go_wp2_with (go_at_call 112;refine H4.mono ?_;rintro e v4 ⟨rfl,hg4⟩);exact zz91
 rw [h4]at H4 HD;rw [zzq0]at HD;go_upto_region 7 with(go_at_call 112;refine H4.mono ?_;rintro e v4 ⟨rfl,hr4,hg4⟩;have S4:=S3.call hr4 hg4;clear S3 H4 hr4 hg4;obtain⟨q0,q1,q2,q3,q4,q5,q6,q7,q8,z0,z1,z2,z3,z4,z5,z6,z7,z8⟩:=zf S4.y);have S4s:=S4.set 5 (.int .i64 m);clear S4 q0 q1 q2 q3 q4 q5 q6 q7 q8 z0 z1 z2 z3 z4 z5 z6 z7 z8;generalize v4.setCell _ _=u4w at *;have hXY:=S4s.hY;rw [S4s.hX]at hXY;obtain⟨q0,q1,q2,q3,q4,q5,q6,q7,q8,z0,z1,z2,z3,z4,z5,z6,z7,z8⟩:=zf S4s.y;have x9:=S4s.x;rw [S4s.hX]at x9;obtain⟨x0,x1,x2,x3,x4,x5,x6,x7,x8,y0,y1,y2,y3,y4,y5,y6,y7,y8⟩:=zf x9;clear x9;go_wp2_with fail;refine bodyPost_ret (results_cell_row rfl _ _ w.heap.size _ _ _ _ rfl (zbG _ _ _ _ _ _ _ _ _ S4s.x) Tryz.underlying47 rfl (by kernel_rfl)) rfl ?_;rw [<-HQ.out,HD.out];exact⟨⟨none,0,rfl,none,0,rfl,.inl rfl⟩,(S4s.fin _ _ _ _ _ _ _ _ _).1,(S4s.fin _ _ _ _ _ _ _ _ _).2⟩
theorem zoz (f r:Nat) (s:ByteArray) (l:List UInt8) (p:Nat) (w:World) (h:RdL r s l p w) (HI:zgf f) (hp:p<=2000) (hpf:2000<=p+f) (hx: ∃l1,zK l=some (112,l1)):
  Calls Tryz.prog 120 #[.pointer (some ⟨r,0,none⟩)] w (zbI r s (f+1) w (zc3 (zA f) p l)):=by
 generalize hQ:zbI r s (f+1) w (zc3 (zA f) p l)=Q at *;have HQ:=zzH hQ;clear hQ;obtain⟨l1,hx⟩:=hx;have HD:Hid (zc3 (zA f) p l=(zK l1).bind fun a=>(zbF 2 a.2).bind fun b=>(zK b.2).bind fun c=>(zcc c.2).bind fun d=>(zbF 4 d.2).bind fun e=>(zca (zA f) c.1 p e.2).bind fun q=>some ((tmK 4 (int:=b.1) (gen:=e.1) (name:=d.1) (arity:=a.1) (items:=q.1.1),q.1.2),q.2)):=zzH (by unfold zc3;rw [hx,zzq0];exact(if_neg (show¬(112:Nat)=113 by decide)).trans (if_pos rfl));have HB:=fun wx (hh:RdL r s l p wx)=>zbU r s l p wx hh
 rw [hx]at HB;have S0:=StO.start h;go_in;go_wp2_with (go_at_call 112;refine(HB _ (h.grown_new _)).mono ?_;rintro e v0 ⟨rfl,hr0,hg0⟩;have S00:=S0.call hr0 hg0;clear S0 hr0 hg0 HB);have S0:=S00;clear S00;have H1:=zbU r s l1 p _ S0.rd;rcases h1:zK l1 with _|⟨ar,l2⟩
 ·exact zz92
 rw [h1]at H1 HD;rw [zzq0]at HD;go_wp2_with (go_at_call 112;refine H1.mono ?_;rintro e v1 ⟨rfl,hr1,hg1⟩;have S1:=S0.call hr1 hg1;clear S0 H1 hr1 hg1);have S1n:=S1.new #[.int .i64 4,.int .i64 0,.int .i64 0,.string ⟨#[]⟩,.string ⟨#[]⟩,.int .i64 ar,.slice none 0 0,.string ⟨#[]⟩,.int .i64 0];clear S1;generalize v1.alloc _=u1w at *;generalize v1.heap.size=Y at *;have H2:=zc0 r s l2 p 2 _ S1n.rd (by omega);rcases h2:zbF 2 l2 with _|⟨i2,l3⟩
 ·rw [h2]at H2 HD
  go_wp2_with (go_at_call 114;refine H2.mono ?_;rintro e v2 ⟨rfl,hg2⟩);exact⟨rfl,by rw [<-HQ.out,HD.out];exact⟨rfl,zh S1n.gr hg2⟩⟩
 rw [h2]at H2 HD;rw [zzq0]at HD;go_wp2_with (go_at_call 114;refine H2.mono ?_;rintro e v2 ⟨rfl,hr2,hg2⟩;have S2:=S1n.call hr2 hg2;clear S1n H2 hr2 hg2;obtain⟨q0,q1,q2,q3,q4,q5,q6,q7,q8,z0,z1,z2,z3,z4,z5,z6,z7,z8⟩:=zf S2.y);have S2s:=S2.set 1 (.int .i64 i2);clear S2 q0 q1 q2 q3 q4 q5 q6 q7 q8 z0 z1 z2 z3 z4 z5 z6 z7 z8;generalize v2.setCell _ _=u2w at *;have H3:=zbU r s l3 p _ S2s.rd;rcases h3:zK l3 with _|⟨n,l4⟩
 ·exact zz89
 rw [h3]at H3 HD;rw [zzq0]at HD;go_wp2_with (go_at_call 112;refine H3.mono ?_;rintro e v3 ⟨rfl,hr3,hg3⟩;have S3:=S2s.call hr3 hg3;clear S2s H3 hr3 hg3);have H4:=zg3 r s l4 p _ S3.rd;rcases h4:zcc l4 with _|⟨nm,l5⟩
 ·rw [h4]at H4 HD
  go_wp2_with (go_at_call 119;refine H4.mono ?_;rintro e v4 ⟨rfl,hg4⟩);exact zz91
 rw [h4]at H4 HD;rw [zzq0]at HD;go_wp2_with (go_at_call 119;refine H4.mono ?_;rintro e v4 ⟨rfl,hr4,hg4⟩;have S4:=S3.call hr4 hg4;clear S3 H4 hr4 hg4;obtain⟨q0,q1,q2,q3,q4,q5,q6,q7,q8,z0,z1,z2,z3,z4,z5,z6,z7,z8⟩:=zf S4.y);have S4s:=S4.set 3 (.string nm);clear S4 q0 q1 q2 q3 q4 q5 q6 q7 q8 z0 z1 z2 z3 z4 z5 z6 z7 z8;generalize v4.setCell _ _=u4w at *;have H5:=zc0 r s l5 p 4 _ S4s.rd (by omega);rcases h5:zbF 4 l5 with _|⟨g4,l6⟩
 ·rw [h5]at H5 HD
  go_wp2_with (go_at_call 114;refine H5.mono ?_;rintro e v5 ⟨rfl,hg5⟩);exact⟨rfl,by rw [<-HQ.out,HD.out];exact⟨rfl,zh S4s.gr hg5⟩⟩
 rw [h5]at H5 HD;rw [zzq0]at HD;go_wp2_with (go_at_call 114;refine H5.mono ?_;rintro e v5 ⟨rfl,hr5,hg5⟩;have S5:=S4s.call hr5 hg5;clear S4s H5 hr5 hg5;obtain⟨q0,q1,q2,q3,q4,q5,q6,q7,q8,z0,z1,z2,z3,z4,z5,z6,z7,z8⟩:=zf S5.y);have S5s:=S5.set 2 (.int .i64 g4);clear S5 q0 q1 q2 q3 q4 q5 q6 q7 q8 z0 z1 z2 z3 z4 z5 z6 z7 z8;generalize v5.setCell _ _=u5w at *;have hn:=(zb6 h3).1;have hyb:=zc S5s.y;have hxb:=zc S5s.x;have hgb:=S5s.gr.size;have H6:=HI r s l6 p n _ S5s.rd (by omega) (by omega) (by omega);rcases h6:zca (zA f) n p l6 with _|⟨⟨ts,p2⟩,l7⟩
 ·rw [h6]at H6 HD
  go_wp2_with (go_at_call 117;refine H6.mono ?_;rintro e v6 ⟨rfl,hg6⟩);exact⟨rfl,by rw [<-HQ.out,HD.out];exact⟨rfl,zh S5s.gr hg6⟩⟩
 rw [h6]at H6 HD;rw [zzq0]at HD;go_upto_region 15 with(go_at_call 117;refine H6.mono ?_;rintro e v6 ⟨⟨so,c,rfl,hsl⟩,hr6,hg6⟩;have S6:=S5s.call hr6 hg6;clear S5s H6 hr6 hg6;have HSL:=zzH hsl;clear hsl;obtain⟨q0,q1,q2,q3,q4,q5,q6,q7,q8,z0,z1,z2,z3,z4,z5,z6,z7,z8⟩:=zf S6.y);have HSM:=zzH (HSL.out.off (OffB.set Y _ 6 (.slice so ts.length c)) hyb (zzL _));have HBX:=zzH (Nat.lt_trans S6.hY hyb);clear HSL;have S6s:=S6.set 6 (.slice so ts.length c);clear S6 q0 q1 q2 q3 q4 q5 q6 q7 q8 z0 z1 z2 z3 z4 z5 z6 z7 z8;generalize v6.setCell _ _=u6w at *;have hXY:=S6s.hY;rw [S6s.hX]at hXY;obtain⟨q0,q1,q2,q3,q4,q5,q6,q7,q8,z0,z1,z2,z3,z4,z5,z6,z7,z8⟩:=zf S6s.y;have x9:=S6s.x;rw [S6s.hX]at x9;obtain⟨x0,x1,x2,x3,x4,x5,x6,x7,x8,y0,y1,y2,y3,y4,y5,y6,y7,y8⟩:=zf x9;clear x9;go_wp2_with fail;refine bodyPost_ret (results_cell_row rfl _ _ w.heap.size _ _ _ _ rfl (zbG _ _ _ _ _ _ _ _ _ S6s.x) Tryz.underlying47 rfl (by kernel_rfl)) rfl ?_;rw [<-HQ.out,HD.out];exact⟨⟨so,c,rfl,so,c,rfl,HSM.out.off (OffB.nine _ _ _ _ _ _ _ _ _ _ _) HBX.out hgb⟩,(S6s.fin _ _ _ _ _ _ _ _ _).1,(S6s.fin _ _ _ _ _ _ _ _ _).2⟩
def zqp (f:Nat):Prop:= ∀(r:Nat) (s:ByteArray) (l:List UInt8) (p:Nat) (w:World),RdL r s l p w->p<=2000->2000<=p+f ->
 Calls Tryz.prog 120 #[.pointer (some ⟨r,0,none⟩)] w (zbI r s (f+1) w (zc3 (zA f) p l))
theorem zpS (f:Nat) (HI:zgf f):zqp f:=by
 intro r s l p w h hp hpf;rcases hx:zK l with _|⟨n,l1⟩
 ·have HD:Hid (zc3 (zA f) p l=none):=zzH (by unfold zc3;rw [hx];rfl)
  have HB:=fun wx (hh:RdL r s l p wx)=>zbU r s l p wx hh
  rw [hx]at HB;have S0:=StO.start h;go_in;go_wp2_with (go_at_call 112;refine(HB _ (h.grown_new _)).mono ?_;rintro e v0 ⟨rfl,hg0⟩);exact⟨rfl,by rw [HD.out];exact⟨rfl,zh S0.gr hg0⟩⟩
 by_cases c1:n=113
 ·subst c1;exact zpI f r s l p w h ⟨l1,hx⟩
 by_cases c2:n=112
 ·subst c2;exact zoz f r s l p w h HI hp hpf ⟨l1,hx⟩
 have HD:Hid (zc3 (zA f) p l=none):=zzH (by unfold zc3;rw [hx,zzq0,if_neg c1,if_neg c2]);have HB:=fun wx (hh:RdL r s l p wx)=>zbU r s l p wx hh
 rw [hx]at HB;have S0:=StO.start h;have n1:((n:Int)==113)=false:=zzB.2 (by omega);have n2:((n:Int)==112)=false:=zzB.2 (by omega);go_in;go_wp2_with (go_at_call 112;refine(HB _ (h.grown_new _)).mono ?_;rintro e v0 ⟨rfl,hr0,hg0⟩);exact⟨rfl,by rw [HD.out];exact⟨rfl,zh S0.gr hg0⟩⟩
theorem zqP (f r:Nat) (s:ByteArray) (l:List UInt8) (p:Nat) (w:World) (h:RdL r s l p w) (hp:p+1<=2000) (hx: ∃l1,zK l=some (97,l1)):
  Calls Tryz.prog 89 #[.pointer (some ⟨r,0,none⟩)] w (zbI r s (f+1) w (zA (f+1) p l)):=by
 generalize hQ:zbI r s (f+1) w (zA (f+1) p l)=Q at *;have HQ:=zzH hQ;clear hQ;obtain⟨l1,hx⟩:=hx;have HD:Hid (zA (f+1) p l=(zK l1).bind fun x=>some ((tmK 1 (int:=x.1),p+1),x.2)):=zzH (by unfold zA;rw [if_pos hp,hx,zzq0];rfl);have hle:decide ((p:Int)+1<=2000)=true:=zzT (by omega);have S0:=StO.start h;unfold zo at S0;go_in;go_upto_region 1 with fail;generalize w.alloc _=w0 at *;obtain⟨c2,f2⟩:=S0.rd.parts;go_upto_region 2 with fail;have S1:=S0.parts;clear S0 c2 f2;generalize w0.setCell _ _=w1 at *;obtain⟨c2,f2⟩:=S1.rd.parts;rw [show((p+1:Nat):Int)=(p:Int)+1 by omega]at c2;have HB:=zbU r s l (p+1) w1 S1.rd;rw [hx]at HB;go_wp2_with (first|(go_at_call 90;refine(zbg _ _).mono ?_;rintro e w2 ⟨rfl,rfl⟩)|(go_at_call 112;refine HB.mono ?_;rintro e v0 ⟨rfl,hr0,hg0⟩;have S0:=S1.call hr0 hg0;clear S1 hr0 hg0 HB c2 f2 hle));have H1:=zbU r s l1 (p+1) _ S0.rd;rcases h1:zK l1 with _|⟨n,l2⟩
 ·exact zz92
 rw [h1]at H1 HD;rw [zzq0]at HD;go_wp2_with (first|(go_at_call 112;refine H1.mono ?_;rintro e v1 ⟨rfl,hr1,hg1⟩;have S1:=S0.call hr1 hg1;clear S0 H1 hr1 hg1)|(go_at_call 113;refine(zhy _ _).mono ?_;rintro e t1 ⟨rfl,hb⟩;have S9:=S1.below hb;clear S1 hb;obtain⟨x0,x1,x2,x3,x4,x5,x6,x7,x8,y0,y1,y2,y3,y4,y5,y6,y7,y8⟩:=zf S9.x));refine bodyPost_ret (results_cell_row rfl _ _ w.heap.size _ _ _ _ rfl (zbG _ _ _ _ _ _ _ _ _ S9.x) Tryz.underlying47 rfl (by kernel_rfl)) rfl ?_;rw [<-HQ.out,HD.out];exact⟨⟨none,0,rfl,none,0,rfl,.inl rfl⟩,(S9.fin _ _ _ _ _ _ _ _ _).1,(S9.fin _ _ _ _ _ _ _ _ _).2⟩
theorem zpP (f r:Nat) (s:ByteArray) (l:List UInt8) (p:Nat) (w:World) (h:RdL r s l p w) (hp:p+1<=2000) (hx: ∃l1,zK l=some (110,l1)):
  Calls Tryz.prog 89 #[.pointer (some ⟨r,0,none⟩)] w (zbI r s (f+1) w (zA (f+1) p l)):=by
 generalize hQ:zbI r s (f+1) w (zA (f+1) p l)=Q at *;have HQ:=zzH hQ;clear hQ;obtain⟨l1,hx⟩:=hx;have HD:Hid (zA (f+1) p l=(zdp l1).bind fun x=>some ((tmK 1 (int:=x.1),p+1),x.2)):=zzH (by unfold zA;rw [if_pos hp,hx,zzq0];rfl);have hle:decide ((p:Int)+1<=2000)=true:=zzT (by omega);have S0:=StO.start h;unfold zo at S0;go_in;go_upto_region 1 with fail;generalize w.alloc _=w0 at *;obtain⟨c2,f2⟩:=S0.rd.parts;go_upto_region 2 with fail;have S1:=S0.parts;clear S0 c2 f2;generalize w0.setCell _ _=w1 at *;obtain⟨c2,f2⟩:=S1.rd.parts;rw [show((p+1:Nat):Int)=(p:Int)+1 by omega]at c2;have HB:=zbU r s l (p+1) w1 S1.rd;rw [hx]at HB;go_wp2_with (first|(go_at_call 90;refine(zbg _ _).mono ?_;rintro e w2 ⟨rfl,rfl⟩)|(go_at_call 112;refine HB.mono ?_;rintro e v0 ⟨rfl,hr0,hg0⟩;have S0:=S1.call hr0 hg0;clear S1 hr0 hg0 HB c2 f2 hle));have H1:=zrb r s l1 (p+1) _ S0.rd;rcases h1:zdp l1 with _|⟨n,l2⟩
 ·rw [h1]at H1 HD
  go_wp2_with (go_at_call 115;refine H1.mono ?_;rintro e v1 ⟨rfl,hg1⟩);exact zz205
 rw [h1]at H1 HD;rw [zzq0]at HD;go_wp2_with (first|(go_at_call 115;refine H1.mono ?_;rintro e v1 ⟨rfl,hr1,hg1⟩;have S1:=S0.call hr1 hg1;clear S0 H1 hr1 hg1)|(go_at_call 113;refine(zhy _ _).mono ?_;rintro e t1 ⟨rfl,hb⟩;have S9:=S1.below hb;clear S1 hb;obtain⟨x0,x1,x2,x3,x4,x5,x6,x7,x8,y0,y1,y2,y3,y4,y5,y6,y7,y8⟩:=zf S9.x));refine bodyPost_ret (results_cell_row rfl _ _ w.heap.size _ _ _ _ rfl (zbG _ _ _ _ _ _ _ _ _ S9.x) Tryz.underlying47 rfl (by kernel_rfl)) rfl ?_;rw [<-HQ.out,HD.out];exact⟨⟨none,0,rfl,none,0,rfl,.inl rfl⟩,(S9.fin _ _ _ _ _ _ _ _ _).1,(S9.fin _ _ _ _ _ _ _ _ _).2⟩
theorem zp5 (f r:Nat) (s:ByteArray) (l:List UInt8) (p:Nat) (w:World) (h:RdL r s l p w) (hp:p+1<=2000) (hx: ∃l1,zK l=some (106,l1)):
  Calls Tryz.prog 89 #[.pointer (some ⟨r,0,none⟩)] w (zbI r s (f+1) w (zA (f+1) p l)):=by
 generalize hQ:zbI r s (f+1) w (zA (f+1) p l)=Q at *;have HQ:=zzH hQ;clear hQ;obtain⟨l1,hx⟩:=hx;have HD:Hid (zA (f+1) p l=some ((tmK 8,p+1),l1)):=zzH (by unfold zA;rw [if_pos hp,hx,zzq0];rfl);have hle:decide ((p:Int)+1<=2000)=true:=zzT (by omega);have S0:=StO.start h;unfold zo at S0;go_in;go_upto_region 1 with fail;generalize w.alloc _=w0 at *;obtain⟨c2,f2⟩:=S0.rd.parts;go_upto_region 2 with fail;have S1:=S0.parts;clear S0 c2 f2;generalize w0.setCell _ _=w1 at *;obtain⟨c2,f2⟩:=S1.rd.parts;rw [show((p+1:Nat):Int)=(p:Int)+1 by omega]at c2;have HB:=zbU r s l (p+1) w1 S1.rd;rw [hx]at HB;go_wp2_with (first|(go_at_call 90;refine(zbg _ _).mono ?_;rintro e w2 ⟨rfl,rfl⟩)|(go_at_call 112;refine HB.mono ?_;rintro e v0 ⟨rfl,hr0,hg0⟩;have S0:=S1.call hr0 hg0;clear S1 hr0 hg0 HB c2 f2 hle)|(go_at_call 118;refine(zpv _).mono ?_;rintro e t1 ⟨rfl,hb⟩;have S9:=S0.below hb;clear S0 hb;obtain⟨x0,x1,x2,x3,x4,x5,x6,x7,x8,y0,y1,y2,y3,y4,y5,y6,y7,y8⟩:=zf S9.x));refine bodyPost_ret (results_cell_row rfl _ _ w.heap.size _ _ _ _ rfl (zbG _ _ _ _ _ _ _ _ _ S9.x) Tryz.underlying47 rfl (by kernel_rfl)) rfl ?_;rw [<-HQ.out,HD.out];exact⟨⟨none,0,rfl,none,0,rfl,.inl rfl⟩,(S9.fin _ _ _ _ _ _ _ _ _).1,(S9.fin _ _ _ _ _ _ _ _ _).2⟩
theorem zpU (f r:Nat) (s:ByteArray) (l:List UInt8) (p:Nat) (w:World) (h:RdL r s l p w) (hp:p+1<=2000) (hx: ∃l1,zK l=some (119,l1)):
  Calls Tryz.prog 89 #[.pointer (some ⟨r,0,none⟩)] w (zbI r s (f+1) w (zA (f+1) p l)):=by
 generalize hQ:zbI r s (f+1) w (zA (f+1) p l)=Q at *;have HQ:=zzH hQ;clear hQ;obtain⟨l1,hx⟩:=hx;have HD:Hid (zA (f+1) p l=(zK l1).bind fun x=>(zci x.1 x.2).bind fun y=>some ((tmK 2 (name:=y.1),p+1),y.2)):=zzH (by unfold zA;rw [if_pos hp,hx,zzq0];rfl);have hle:decide ((p:Int)+1<=2000)=true:=zzT (by omega);have S0:=StO.start h;unfold zo at S0;go_in;go_upto_region 1 with fail;generalize w.alloc _=w0 at *;obtain⟨c2,f2⟩:=S0.rd.parts;go_upto_region 2 with fail;have S1:=S0.parts;clear S0 c2 f2;generalize w0.setCell _ _=w1 at *;obtain⟨c2,f2⟩:=S1.rd.parts;rw [show((p+1:Nat):Int)=(p:Int)+1 by omega]at c2;have HB:=zbU r s l (p+1) w1 S1.rd;rw [hx]at HB;go_wp2_with (first|(go_at_call 90;refine(zbg _ _).mono ?_;rintro e w2 ⟨rfl,rfl⟩)|(go_at_call 112;refine HB.mono ?_;rintro e v0 ⟨rfl,hr0,hg0⟩;have S0:=S1.call hr0 hg0;clear S1 hr0 hg0 HB c2 f2 hle));have H1:=zbU r s l1 (p+1) _ S0.rd;rcases h1:zK l1 with _|⟨n,l2⟩
 ·exact zz92
 rw [h1]at H1 HD;rw [zzq0]at HD;go_wp2_with (go_at_call 112;refine H1.mono ?_;rintro e v1 ⟨rfl,hr1,hg1⟩;have S1:=S0.call hr1 hg1;clear S0 H1 hr1 hg1);have hn:=(zb6 h1).1;have H2:=zgT r s l2 (p+1) n _ S1.rd (by omega);rcases h2:zci n l2 with _|⟨b,l3⟩
 ·exact zz93
 rw [h2]at H2 HD;rw [zzq0]at HD;go_wp2_with (go_at_call 116;refine H2.mono ?_;rintro e v2 ⟨rfl,hr2,hg2⟩;have S2:=S1.call hr2 hg2;clear S1 H2 hr2 hg2;obtain⟨x0,x1,x2,x3,x4,x5,x6,x7,x8,y0,y1,y2,y3,y4,y5,y6,y7,y8⟩:=zf S2.x);refine bodyPost_ret (results_cell_row rfl _ _ w.heap.size _ _ _ _ rfl (zbG _ _ _ _ _ _ _ _ _ S2.x) Tryz.underlying47 rfl (by kernel_rfl)) rfl ?_;rw [<-HQ.out,HD.out];exact⟨⟨none,0,rfl,none,0,rfl,.inl rfl⟩,(S2.fin _ _ _ _ _ _ _ _ _).1,(S2.fin _ _ _ _ _ _ _ _ _).2⟩
theorem zqb (f r:Nat) (s:ByteArray) (l:List UInt8) (p:Nat) (w:World) (h:RdL r s l p w) (hp:p+1<=2000) (HI:zgf f) (hpf:2000<=p+1+f) (hx: ∃l1,zK l=some (104,l1)):
  Calls Tryz.prog 89 #[.pointer (some ⟨r,0,none⟩)] w (zbI r s (f+1) w (zA (f+1) p l)):=by
 generalize hQ:zbI r s (f+1) w (zA (f+1) p l)=Q at *;have HQ:=zzH hQ;clear hQ;obtain⟨l1,hx⟩:=hx;have HD:Hid (zA (f+1) p l=(zK l1).bind fun x=>(zca (zA f) x.1 (p+1) x.2).bind fun y=>some ((tmK 7 (items:=y.1.1),y.1.2),y.2)):=zzH (by unfold zA;rw [if_pos hp,hx,zzq0];rfl);have hle:decide ((p:Int)+1<=2000)=true:=zzT (by omega);have S0:=StO.start h;unfold zo at S0;go_in;go_upto_region 1 with fail;generalize w.alloc _=w0 at *;obtain⟨c2,f2⟩:=S0.rd.parts;go_upto_region 2 with fail;have S1:=S0.parts;clear S0 c2 f2;generalize w0.setCell _ _=w1 at *;obtain⟨c2,f2⟩:=S1.rd.parts;rw [show((p+1:Nat):Int)=(p:Int)+1 by omega]at c2;have HB:=zbU r s l (p+1) w1 S1.rd;rw [hx]at HB;go_wp2_with (first|(go_at_call 90;refine(zbg _ _).mono ?_;rintro e w2 ⟨rfl,rfl⟩)|(go_at_call 112;refine HB.mono ?_;rintro e v0 ⟨rfl,hr0,hg0⟩;have S0:=S1.call hr0 hg0;clear S1 hr0 hg0 HB c2 f2 hle));have H1:=zbU r s l1 (p+1) _ S0.rd;rcases h1:zK l1 with _|⟨n,l2⟩
 ·exact zz92
 rw [h1]at H1 HD;rw [zzq0]at HD;go_wp2_with (go_at_call 112;refine H1.mono ?_;rintro e v1 ⟨rfl,hr1,hg1⟩;have S1:=S0.call hr1 hg1;clear S0 H1 hr1 hg1);have hn:=(zb6 h1).1;have hxb:=zc S1.x;have hgb:=S1.gr.size;have H2:=HI r s l2 (p+1) n _ S1.rd (by omega) (by omega) (by omega);rcases h2:zca (zA f) n (p+1) l2 with _|⟨⟨ts,p2⟩,l3⟩
 ·exact zz94
 rw [h2]at H2 HD;rw [zzq0]at HD;go_wp2_with (go_at_call 117;refine H2.mono ?_;rintro e v2 ⟨⟨so,c,rfl,hsl⟩,hr2,hg2⟩;have S2:=S1.call hr2 hg2;clear S1 H2 hr2 hg2;have HSL:=zzH hsl;clear hsl;obtain⟨x0,x1,x2,x3,x4,x5,x6,x7,x8,y0,y1,y2,y3,y4,y5,y6,y7,y8⟩:=zf S2.x);refine bodyPost_ret (results_cell_row rfl _ _ w.heap.size _ _ _ _ rfl (zbG _ _ _ _ _ _ _ _ _ S2.x) Tryz.underlying47 rfl (by kernel_rfl)) rfl ?_;rw [<-HQ.out,HD.out];exact⟨⟨so,c,rfl,so,c,rfl,HSL.out.off (OffB.nine _ _ _ _ _ _ _ _ _ _ _) hxb hgb⟩,(S2.fin _ _ _ _ _ _ _ _ _).1,(S2.fin _ _ _ _ _ _ _ _ _).2⟩
theorem zqy (f r:Nat) (s:ByteArray) (l:List UInt8) (p:Nat) (w:World) (h:RdL r s l p w) (hp:p+1<=2000) (HI:zgf f) (hpf:2000<=p+1+f) (hx: ∃l1,zK l=some (108,l1)):
  Calls Tryz.prog 89 #[.pointer (some ⟨r,0,none⟩)] w (zbI r s (f+1) w (zA (f+1) p l)):=by
 generalize hQ:zbI r s (f+1) w (zA (f+1) p l)=Q at *;have HQ:=zzH hQ;clear hQ;obtain⟨l1,hx⟩:=hx;have HD:Hid (zA (f+1) p l=(zbF 4 l1).bind fun x=>(zca (zA f) (x.1+1) (p+1) x.2).bind fun y=>some ((tmK 9 (items:=y.1.1),y.1.2),y.2)):=zzH (by unfold zA;rw [if_pos hp,hx,zzq0];rfl);have hle:decide ((p:Int)+1<=2000)=true:=zzT (by omega);have S0:=StO.start h;unfold zo at S0;go_in;go_upto_region 1 with fail;generalize w.alloc _=w0 at *;obtain⟨c2,f2⟩:=S0.rd.parts;go_upto_region 2 with fail;have S1:=S0.parts;clear S0 c2 f2;generalize w0.setCell _ _=w1 at *;obtain⟨c2,f2⟩:=S1.rd.parts;rw [show((p+1:Nat):Int)=(p:Int)+1 by omega]at c2;have HB:=zbU r s l (p+1) w1 S1.rd;rw [hx]at HB;go_wp2_with (first|(go_at_call 90;refine(zbg _ _).mono ?_;rintro e w2 ⟨rfl,rfl⟩)|(go_at_call 112;refine HB.mono ?_;rintro e v0 ⟨rfl,hr0,hg0⟩;have S0:=S1.call hr0 hg0;clear S1 hr0 hg0 HB c2 f2 hle));have H1:=zc0 r s l1 (p+1) 4 _ S0.rd (by omega);rcases h1:zbF 4 l1 with _|⟨n,l2⟩
 ·exact zz95
 rw [h1]at H1 HD;rw [zzq0]at HD;have hn:=(zcL h1).1;rw [show(256:Nat)^4=4294967296 from rfl]at hn;go_wp2_with (go_at_call 114;refine H1.mono ?_;rintro e v1 ⟨rfl,hr1,hg1⟩;have S1:=S0.call hr1 hg1;clear S0 H1 hr1 hg1);have hxb:=zc S1.x;have hgb:=S1.gr.size;have H2:=HI r s l2 (p+1) (n+1) _ S1.rd (by omega) (by omega) (by omega);rw [show((n+1:Nat):Int)=(n:Int)+1 by omega]at H2;rcases h2:zca (zA f) (n+1) (p+1) l2 with _|⟨⟨ts,p2⟩,l3⟩
 ·exact zz94
 rw [h2]at H2 HD;rw [zzq0]at HD;go_wp2_with (go_at_call 117;refine H2.mono ?_;rintro e v2 ⟨⟨so,c,rfl,hsl⟩,hr2,hg2⟩;have S2:=S1.call hr2 hg2;clear S1 H2 hr2 hg2;have HSL:=zzH hsl;clear hsl;obtain⟨x0,x1,x2,x3,x4,x5,x6,x7,x8,y0,y1,y2,y3,y4,y5,y6,y7,y8⟩:=zf S2.x);refine bodyPost_ret (results_cell_row rfl _ _ w.heap.size _ _ _ _ rfl (zbG _ _ _ _ _ _ _ _ _ S2.x) Tryz.underlying47 rfl (by kernel_rfl)) rfl ?_;rw [<-HQ.out,HD.out];exact⟨⟨so,c,rfl,so,c,rfl,HSL.out.off (OffB.nine _ _ _ _ _ _ _ _ _ _ _) hxb hgb⟩,(S2.fin _ _ _ _ _ _ _ _ _).1,(S2.fin _ _ _ _ _ _ _ _ _).2⟩
theorem zpL (f r:Nat) (s:ByteArray) (l:List UInt8) (p:Nat) (w:World) (h:RdL r s l p w) (hp:p+1<=2000) (hx: ∃l1,zK l=some (109,l1)):
  Calls Tryz.prog 89 #[.pointer (some ⟨r,0,none⟩)] w (zbI r s (f+1) w (zA (f+1) p l)):=by
 generalize hQ:zbI r s (f+1) w (zA (f+1) p l)=Q at *;have HQ:=zzH hQ;clear hQ;obtain⟨l1,hx⟩:=hx;have HD:Hid (zA (f+1) p l=(zbF 4 l1).bind fun x=>(zci x.1 x.2).bind fun y=>some ((tmK 10 (bytes:=y.1) (bits:=8*(y.1.size:Int)),p+1),y.2)):=zzH (by unfold zA;rw [if_pos hp,hx,zzq0];rfl);have hle:decide ((p:Int)+1<=2000)=true:=zzT (by omega);have S0:=StO.start h;unfold zo at S0;go_in;go_upto_region 1 with fail;generalize w.alloc _=w0 at *;obtain⟨c2,f2⟩:=S0.rd.parts;go_upto_region 2 with fail;have S1:=S0.parts;clear S0 c2 f2;generalize w0.setCell _ _=w1 at *;obtain⟨c2,f2⟩:=S1.rd.parts;rw [show((p+1:Nat):Int)=(p:Int)+1 by omega]at c2;have HB:=zbU r s l (p+1) w1 S1.rd;rw [hx]at HB;go_wp2_with (first|(go_at_call 90;refine(zbg _ _).mono ?_;rintro e w2 ⟨rfl,rfl⟩)|(go_at_call 112;refine HB.mono ?_;rintro e v0 ⟨rfl,hr0,hg0⟩;have S0:=S1.call hr0 hg0;clear S1 hr0 hg0 HB c2 f2 hle));have H1:=zc0 r s l1 (p+1) 4 _ S0.rd (by omega);rcases h1:zbF 4 l1 with _|⟨n,l2⟩
 ·exact zz95
 rw [h1]at H1 HD;rw [zzq0]at HD;go_wp2_with (go_at_call 114;refine H1.mono ?_;rintro e v1 ⟨rfl,hr1,hg1⟩;have S1:=S0.call hr1 hg1;clear S0 H1 hr1 hg1);have hn:=(zcL h1).1;rw [show(256:Nat)^4=4294967296 from rfl]at hn;have H2:=zgT r s l2 (p+1) n _ S1.rd (by omega);rcases h2:zci n l2 with _|⟨b,l3⟩
 ·exact zz93
 rw [h2]at H2 HD;rw [zzq0]at HD;have hb:=(zfO h2).1;have hw8:IntKind.i64.wrap (8*(b.size:Int))=8*(b.size:Int):=by rw [zzq3];omega
 clear hb;go_wp2_with (go_at_call 116;refine H2.mono ?_;rintro e v2 ⟨rfl,hr2,hg2⟩;have S2:=S1.call hr2 hg2;clear S1 H2 hr2 hg2;obtain⟨x0,x1,x2,x3,x4,x5,x6,x7,x8,y0,y1,y2,y3,y4,y5,y6,y7,y8⟩:=zf S2.x);refine bodyPost_ret (results_cell_row rfl _ _ w.heap.size _ _ _ _ rfl (zbG _ _ _ _ _ _ _ _ _ S2.x) Tryz.underlying47 rfl (by kernel_rfl)) rfl ?_;rw [<-HQ.out,HD.out];exact⟨⟨none,0,rfl,none,0,rfl,.inl rfl⟩,(S2.fin _ _ _ _ _ _ _ _ _).1,(S2.fin _ _ _ _ _ _ _ _ _).2⟩
theorem zqS (f r:Nat) (s:ByteArray) (l:List UInt8) (p:Nat) (w:World) (h:RdL r s l p w) (hp:p+1<=2000) (hx: ∃l1,zK l=some (77,l1)):
  Calls Tryz.prog 89 #[.pointer (some ⟨r,0,none⟩)] w (zbI r s (f+1) w (zA (f+1) p l)):=by
 generalize hQ:zbI r s (f+1) w (zA (f+1) p l)=Q at *;have HQ:=zzH hQ;clear hQ;obtain⟨l1,hx⟩:=hx;have HD:Hid (zA (f+1) p l=(zbF 4 l1).bind fun x=>(zK x.2).bind fun y=>if 0<x.1/\0<y.1/\y.1<8 then(zci x.1 y.2).bind fun z=>some ((tmK 10 (bytes:=z.1) (bits:=8*((x.1:Int)-1)+y.1),p+1),z.2)else none):=zzH (by unfold zA;rw [if_pos hp,hx,zzq0];rfl);have hle:decide ((p:Int)+1<=2000)=true:=zzT (by omega);have S0:=StO.start h;unfold zo at S0;go_in;go_upto_region 1 with fail;generalize w.alloc _=w0 at *;obtain⟨c2,f2⟩:=S0.rd.parts;go_upto_region 2 with fail;have S1:=S0.parts;clear S0 c2 f2;generalize w0.setCell _ _=w1 at *;obtain⟨c2,f2⟩:=S1.rd.parts;rw [show((p+1:Nat):Int)=(p:Int)+1 by omega]at c2;have HB:=zbU r s l (p+1) w1 S1.rd;rw [hx]at HB;go_wp2_with (first|(go_at_call 90;refine(zbg _ _).mono ?_;rintro e w2 ⟨rfl,rfl⟩)|(go_at_call 112;refine HB.mono ?_;rintro e v0 ⟨rfl,hr0,hg0⟩;have S0:=S1.call hr0 hg0;clear S1 hr0 hg0 HB c2 f2 hle));have H1:=zc0 r s l1 (p+1) 4 _ S0.rd (by omega);rcases h1:zbF 4 l1 with _|⟨n,l2⟩
 ·exact zz95
 rw [h1]at H1 HD;rw [zzq0]at HD;go_wp2_with (go_at_call 114;refine H1.mono ?_;rintro e v1 ⟨rfl,hr1,hg1⟩;have S1:=S0.call hr1 hg1;clear S0 H1 hr1 hg1);have hn:=(zcL h1).1;rw [show(256:Nat)^4=4294967296 from rfl]at hn;have H2:=zbU r s l2 (p+1) _ S1.rd;rcases h2:zK l2 with _|⟨m,l3⟩
 ·rw [h2]at H2 HD
  go_wp2_with (go_at_call 112;refine H2.mono ?_;rintro e v2 ⟨rfl,hg2⟩);exact zz97
 rw [h2]at H2 HD;rw [zzq0]at HD;have hm:=(zb6 h2).1;by_cases cc:0<n/\0<m/\m<8
 case neg=>
  rw [if_neg cc]at HD;have HC:=zzH cc;clear cc;by_cases c1:0<n
  ·by_cases c2:0<m
   ·have c3: ¬m<8:=fun e=>HC.out ⟨c1,c2,e⟩
    have k1:(n:Int)>0:=by omega
    have k2:(m:Int)>0:=by omega
    have k3:decide ((m:Int)<8)=false:=zzD (by omega);clear c1 c2 c3;exact zz96
   ·have k1:(n:Int)>0:=by omega
    have k2: ¬(m:Int)>0:=by omega
    clear c1 c2;exact zz96
  ·have k1: ¬(n:Int)>0:=by omega
   clear c1;exact zz96
 rw [if_pos cc]at HD;obtain⟨c1,c2,c3⟩:=cc;have k1:(n:Int)>0:=by omega
 have k2:(m:Int)>0:=by omega
 have k3:decide ((m:Int)<8)=true:=zzT (by omega);go_wp2_with (go_at_call 112;refine H2.mono ?_;rintro e v2 ⟨rfl,hr2,hg2⟩;have S2:=S1.call hr2 hg2;clear S1 H2 hr2 hg2);go_wp2_with (go_at_call 90;refine(zbg _ _).mono ?_;rintro e d2 ⟨rfl,rfl⟩);clear k1 k2 k3;have H3:=zgT r s l3 (p+1) n _ S2.rd (by omega);rcases h3:zci n l3 with _|⟨b,l4⟩
 ·rw [h3]at H3 HD
  go_wp2_with (go_at_call 116;refine H3.mono ?_;rintro e v3 ⟨rfl,hg3⟩);exact zz98
 rw [h3]at H3 HD;rw [zzq0]at HD;go_wp2_with (go_at_call 116;refine H3.mono ?_;rintro e v3 ⟨rfl,hr3,hg3⟩;have S3:=S2.call hr3 hg3;clear S2 H3 hr3 hg3;obtain⟨x0,x1,x2,x3,x4,x5,x6,x7,x8,y0,y1,y2,y3,y4,y5,y6,y7,y8⟩:=zf S3.x);refine bodyPost_ret (results_cell_row rfl _ _ w.heap.size _ _ _ _ rfl (zbG _ _ _ _ _ _ _ _ _ S3.x) Tryz.underlying47 rfl (by kernel_rfl)) rfl ?_;rw [<-HQ.out,HD.out];exact⟨⟨none,0,rfl,none,0,rfl,.inl rfl⟩,(S3.fin _ _ _ _ _ _ _ _ _).1,(S3.fin _ _ _ _ _ _ _ _ _).2⟩
theorem zq6 (f r:Nat) (s:ByteArray) (l:List UInt8) (p:Nat) (w:World) (h:RdL r s l p w) (hp:p+1<=2000) (hx: ∃l1,zK l=some (88,l1)):
  Calls Tryz.prog 89 #[.pointer (some ⟨r,0,none⟩)] w (zbI r s (f+1) w (zA (f+1) p l)):=by
 generalize hQ:zbI r s (f+1) w (zA (f+1) p l)=Q at *;have HQ:=zzH hQ;clear hQ;obtain⟨l1,hx⟩:=hx;have HD:Hid (zA (f+1) p l=(zcc l1).bind fun x=>(zbF 4 x.2).bind fun y=>(zbF 4 y.2).bind fun z=>if z.1=0 then(zbF 4 z.2).bind fun q=>some ((tmK 6 (int:=y.1) (gen:=q.1) (name:=x.1),p+1),q.2)else none):=zzH (by unfold zA;rw [if_pos hp,hx,zzq0];rfl);have hle:decide ((p:Int)+1<=2000)=true:=zzT (by omega);have S0:=StO.start h;unfold zo at S0;go_in;go_upto_region 1 with fail;generalize w.alloc _=w0 at *;obtain⟨c2,f2⟩:=S0.rd.parts;go_upto_region 2 with fail;have S1:=S0.parts;clear S0 c2 f2;generalize w0.setCell _ _=w1 at *;obtain⟨c2,f2⟩:=S1.rd.parts;rw [show((p+1:Nat):Int)=(p:Int)+1 by omega]at c2;have HB:=zbU r s l (p+1) w1 S1.rd;rw [hx]at HB;go_wp2_with (first|(go_at_call 90;refine(zbg _ _).mono ?_;rintro e w2 ⟨rfl,rfl⟩)|(go_at_call 112;refine HB.mono ?_;rintro e v0 ⟨rfl,hr0,hg0⟩;have S0:=S1.call hr0 hg0;clear S1 hr0 hg0 HB c2 f2 hle));have H1:=zg3 r s l1 (p+1) _ S0.rd;rcases h1:zcc l1 with _|⟨nm,l2⟩
 ·exact zz90
 rw [h1]at H1 HD;rw [zzq0]at HD;go_wp2_with (go_at_call 119;refine H1.mono ?_;rintro e v1 ⟨rfl,hr1,hg1⟩;have S1:=S0.call hr1 hg1;clear S0 H1 hr1 hg1);have H2:=zc0 r s l2 (p+1) 4 _ S1.rd (by omega);rcases h2:zbF 4 l2 with _|⟨i4,l3⟩
 ·rw [h2]at H2 HD
  go_wp2_with (go_at_call 114;refine H2.mono ?_;rintro e v2 ⟨rfl,hg2⟩);exact zz97
 rw [h2]at H2 HD;rw [zzq0]at HD;go_wp2_with (go_at_call 114;refine H2.mono ?_;rintro e v2 ⟨rfl,hr2,hg2⟩;have S2:=S1.call hr2 hg2;clear S1 H2 hr2 hg2);have S2n:=S2.new #[.int .i64 6,.int .i64 i4,.int .i64 0,.string nm,.string ⟨#[]⟩,.int .i64 0,.slice none 0 0,.string ⟨#[]⟩,.int .i64 0];clear S2;generalize v2.alloc _=u2w at *;generalize v2.heap.size=Y at *;have H3:=zc0 r s l3 (p+1) 4 _ S2n.rd (by omega);rcases h3:zbF 4 l3 with _|⟨z4,l4⟩
 ·rw [h3]at H3 HD
  go_wp2_with (go_at_call 114;refine H3.mono ?_;rintro e v3 ⟨rfl,hg3⟩);exact⟨rfl,by rw [<-HQ.out,HD.out];exact⟨rfl,zh S2n.gr hg3⟩⟩
 rw [h3]at H3 HD;rw [zzq0]at HD;by_cases c:z4=0
 case neg=>
  rw [if_neg c]at HD;have hne:((z4:Int)==0)=false:=zzB.2 (by omega);go_wp2_with (go_at_call 114;refine H3.mono ?_;rintro e v3 ⟨rfl,hr3,hg3⟩);go_wp2_with (go_at_call 90;refine(zcC _ _).mono ?_;rintro e d3 ⟨rfl,rfl⟩);exact⟨rfl,by rw [<-HQ.out,HD.out];exact⟨rfl,zh S2n.gr hg3⟩⟩
 subst c;rw [if_pos rfl]at HD;go_wp2_with (go_at_call 114;refine H3.mono ?_;rintro e v3 ⟨rfl,hr3,hg3⟩;have S3:=S2n.call hr3 hg3;clear S2n H3 hr3 hg3);go_wp2_with (go_at_call 90;refine(zbg _ _).mono ?_;rintro e d3 ⟨rfl,rfl⟩);have H4:=zc0 r s l4 (p+1) 4 _ S3.rd (by omega);rcases h4:zbF 4 l4 with _|⟨g4,l5⟩
 ·rw [h4]at H4 HD
  go_wp2_with (go_at_call 114;refine H4.mono ?_;rintro e v4 ⟨rfl,hg4⟩);exact zz91
 rw [h4]at H4 HD;rw [zzq0]at HD;go_upto_region 31 with(go_at_call 114;refine H4.mono ?_;rintro e v4 ⟨rfl,hr4,hg4⟩;have S4:=S3.call hr4 hg4;clear S3 H4 hr4 hg4;obtain⟨q0,q1,q2,q3,q4,q5,q6,q7,q8,z0,z1,z2,z3,z4,z5,z6,z7,z8⟩:=zf S4.y);have S4s:=S4.set 2 (.int .i64 g4);clear S4 q0 q1 q2 q3 q4 q5 q6 q7 q8 z0 z1 z2 z3 z4 z5 z6 z7 z8;generalize v4.setCell _ _=u4w at *;have hXY:=S4s.hY;rw [S4s.hX]at hXY;obtain⟨q0,q1,q2,q3,q4,q5,q6,q7,q8,z0,z1,z2,z3,z4,z5,z6,z7,z8⟩:=zf S4s.y;have x9:=S4s.x;rw [S4s.hX]at x9;obtain⟨x0,x1,x2,x3,x4,x5,x6,x7,x8,y0,y1,y2,y3,y4,y5,y6,y7,y8⟩:=zf x9;clear x9;go_wp2_with fail;refine bodyPost_ret (results_cell_row rfl _ _ w.heap.size _ _ _ _ rfl (zbG _ _ _ _ _ _ _ _ _ S4s.x) Tryz.underlying47 rfl (by kernel_rfl)) rfl ?_;rw [<-HQ.out,HD.out];exact⟨⟨none,0,rfl,none,0,rfl,.inl rfl⟩,(S4s.fin _ _ _ _ _ _ _ _ _).1,(S4s.fin _ _ _ _ _ _ _ _ _).2⟩
theorem zry (f r:Nat) (s:ByteArray) (l:List UInt8) (p:Nat) (w:World) (h:RdL r s l p w) (hp:p+1<=2000) (hx: ∃l1,zK l=some (90,l1)):
  Calls Tryz.prog 89 #[.pointer (some ⟨r,0,none⟩)] w (zbI r s (f+1) w (zA (f+1) p l)):=by
 generalize hQ:zbI r s (f+1) w (zA (f+1) p l)=Q at *;have HQ:=zzH hQ;clear hQ;obtain⟨l1,hx⟩:=hx;have HD:Hid (zA (f+1) p l=(zbF 2 l1).bind fun x=>if x.1=1 then(zcc x.2).bind fun y=>(zbF 4 y.2).bind fun z=>(zbF 4 z.2).bind fun q=>some ((tmK 3 (int:=q.1) (gen:=z.1) (name:=y.1),p+1),q.2)else none):=zzH (by unfold zA;rw [if_pos hp,hx,zzq0];rfl);have hle:decide ((p:Int)+1<=2000)=true:=zzT (by omega);have S0:=StO.start h;unfold zo at S0;go_in;go_upto_region 1 with fail;generalize w.alloc _=w0 at *;obtain⟨c2,f2⟩:=S0.rd.parts;go_upto_region 2 with fail;have S1:=S0.parts;clear S0 c2 f2;generalize w0.setCell _ _=w1 at *;obtain⟨c2,f2⟩:=S1.rd.parts;rw [show((p+1:Nat):Int)=(p:Int)+1 by omega]at c2;have HB:=zbU r s l (p+1) w1 S1.rd;rw [hx]at HB;go_wp2_with (first|(go_at_call 90;refine(zbg _ _).mono ?_;rintro e w2 ⟨rfl,rfl⟩)|(go_at_call 112;refine HB.mono ?_;rintro e v0 ⟨rfl,hr0,hg0⟩;have S0:=S1.call hr0 hg0;clear S1 hr0 hg0 HB c2 f2 hle));have H1:=zc0 r s l1 (p+1) 2 _ S0.rd (by omega);rcases h1:zbF 2 l1 with _|⟨z2,l2⟩
 ·exact zz95
 rw [h1]at H1 HD;rw [zzq0]at HD;by_cases c:z2=1
 case neg=>
  rw [if_neg c]at HD;have hne:((z2:Int)==1)=false:=zzB.2 (by omega);go_wp2_with (go_at_call 114;refine H1.mono ?_;rintro e v1 ⟨rfl,hr1,hg1⟩);go_wp2_with (go_at_call 90;refine(zcC _ _).mono ?_;rintro e d1 ⟨rfl,rfl⟩);exact zz205
 subst c;rw [if_pos rfl]at HD;go_wp2_with (go_at_call 114;refine H1.mono ?_;rintro e v1 ⟨rfl,hr1,hg1⟩;have S1:=S0.call hr1 hg1;clear S0 H1 hr1 hg1);go_wp2_with (go_at_call 90;refine(zbg _ _).mono ?_;rintro e d1 ⟨rfl,rfl⟩);have H2:=zg3 r s l2 (p+1) _ S1.rd;rcases h2:zcc l2 with _|⟨nm,l3⟩
 ·rw [h2]at H2 HD
  go_wp2_with (go_at_call 119;refine H2.mono ?_;rintro e v2 ⟨rfl,hg2⟩);exact zz97
 rw [h2]at H2 HD;rw [zzq0]at HD;go_wp2_with (go_at_call 119;refine H2.mono ?_;rintro e v2 ⟨rfl,hr2,hg2⟩;have S2:=S1.call hr2 hg2;clear S1 H2 hr2 hg2);have H3:=zc0 r s l3 (p+1) 4 _ S2.rd (by omega);rcases h3:zbF 4 l3 with _|⟨g4,l4⟩
 ·rw [h3]at H3 HD
  go_wp2_with (go_at_call 114;refine H3.mono ?_;rintro e v3 ⟨rfl,hg3⟩);exact zz98
 rw [h3]at H3 HD;rw [zzq0]at HD;go_wp2_with (go_at_call 114;refine H3.mono ?_;rintro e v3 ⟨rfl,hr3,hg3⟩;have S3:=S2.call hr3 hg3;clear S2 H3 hr3 hg3);have S3n:=S3.new #[.int .i64 3,.int .i64 0,.int .i64 g4,.string nm,.string ⟨#[]⟩,.int .i64 0,.slice none 0 0,.string ⟨#[]⟩,.int .i64 0];clear S3;generalize v3.alloc _=u3w at *;generalize v3.heap.size=Y at *;have H4:=zc0 r s l4 (p+1) 4 _ S3n.rd (by omega);rcases h4:zbF 4 l4 with _|⟨i4,l5⟩
 ·rw [h4]at H4 HD
  go_wp2_with (go_at_call 114;refine H4.mono ?_;rintro e v4 ⟨rfl,hg4⟩);exact⟨rfl,by rw [<-HQ.out,HD.out];exact⟨rfl,zh S3n.gr hg4⟩⟩
 rw [h4]at H4 HD;rw [zzq0]at HD;go_upto_region 36 with(go_at_call 114;refine H4.mono ?_;rintro e v4 ⟨rfl,hr4,hg4⟩;have S4:=S3n.call hr4 hg4;clear S3n H4 hr4 hg4;obtain⟨q0,q1,q2,q3,q4,q5,q6,q7,q8,z0,z1,z2,z3,z4,z5,z6,z7,z8⟩:=zf S4.y);have S4s:=S4.set 1 (.int .i64 i4);clear S4 q0 q1 q2 q3 q4 q5 q6 q7 q8 z0 z1 z2 z3 z4 z5 z6 z7 z8;generalize v4.setCell _ _=u4w at *;have hXY:=S4s.hY;rw [S4s.hX]at hXY;obtain⟨q0,q1,q2,q3,q4,q5,q6,q7,q8,z0,z1,z2,z3,z4,z5,z6,z7,z8⟩:=zf S4s.y;have x9:=S4s.x;rw [S4s.hX]at x9;obtain⟨x0,x1,x2,x3,x4,x5,x6,x7,x8,y0,y1,y2,y3,y4,y5,y6,y7,y8⟩:=zf x9;clear x9;go_wp2_with fail;refine bodyPost_ret (results_cell_row rfl _ _ w.heap.size _ _ _ _ rfl (zbG _ _ _ _ _ _ _ _ _ S4s.x) Tryz.underlying47 rfl (by kernel_rfl)) rfl ?_;rw [<-HQ.out,HD.out];exact⟨⟨none,0,rfl,none,0,rfl,.inl rfl⟩,(S4s.fin _ _ _ _ _ _ _ _ _).1,(S4s.fin _ _ _ _ _ _ _ _ _).2⟩
theorem zqv {n:Nat} (h:n<4294967296):wrap64 (wrap32 (n:Int))=zbZ n/\ -2147483648<=zbZ n/\zbZ n<=2147483647:=by
 unfold zbZ wrap32 wrap64;split<;>omega
theorem TmIn.sl {w:World} {P:Nat->Prop} {f:Nat} {t:Tm} {so:Option Addr} {c:Nat} (h:TmIn w P (f+1) (tmL t so c) t):SlIn w P 9 (TmIn w P f) so t.items:=by
 obtain⟨ao,c',e,hs⟩:=h;simp only [tmL,List.cons.injEq,Value.slice.injEq,true_and,and_true]at e;rw [e.1];exact hs
theorem StO.back {w0:World} {r:Nat} {s:ByteArray} {l l':List UInt8} {p X a:Nat} {wx:World} (h:StO w0 r s l' p X wx) (hA:RdAt r s (a+1) p wx) (ha:a<=s.size) (hal:s.data.toList.drop a=l) (hs:s.size<=9223372036854775807):StO w0 r s l p X (wx.setCell ⟨r,1,none⟩ (.int .i64 (a:Int))):=by
 have hX:=h.hX;have hr:=h.hr;have:=zzS wx r 1 _ _ (.int .i64 (a:Int)) hA;exact⟨⟨a,this,ha,hal,hs⟩,zh h.gr (zG _ r 1 _),(zzq7 _ _ _ _ (by simp;omega)).trans h.x,hr,hX⟩
theorem zrT (f r:Nat) (s:ByteArray) (l:List UInt8) (p:Nat) (w:World) (h:RdL r s l p w) (hp:p+1<=2000) (hx: ∃l1,zK l=some (98,l1)):
  Calls Tryz.prog 89 #[.pointer (some ⟨r,0,none⟩)] w (zbI r s (f+1) w (zA (f+1) p l)):=by
 generalize hQ:zbI r s (f+1) w (zA (f+1) p l)=Q at *;have HQ:=zzH hQ;clear hQ;obtain⟨l1,hx⟩:=hx;have HD:Hid (zA (f+1) p l=(zbF 4 l1).bind fun x=>if zbZ x.1<0∨255<zbZ x.1 then some ((tmK 1 (int:=zbZ x.1),p+1),x.2)else none):=zzH (by unfold zA;rw [if_pos hp,hx,zzq0];rfl);have hle:decide ((p:Int)+1<=2000)=true:=zzT (by omega);have S0:=StO.start h;unfold zo at S0;go_in;go_upto_region 1 with fail;generalize w.alloc _=w0 at *;obtain⟨c2,f2⟩:=S0.rd.parts;go_upto_region 2 with fail;have S1:=S0.parts;clear S0 c2 f2;generalize w0.setCell _ _=w1 at *;obtain⟨c2,f2⟩:=S1.rd.parts;rw [show((p+1:Nat):Int)=(p:Int)+1 by omega]at c2;have HB:=zbU r s l (p+1) w1 S1.rd;rw [hx]at HB;go_wp2_with (first|(go_at_call 90;refine(zbg _ _).mono ?_;rintro e w2 ⟨rfl,rfl⟩)|(go_at_call 112;refine HB.mono ?_;rintro e v0 ⟨rfl,hr0,hg0⟩;have S0:=S1.call hr0 hg0;clear S1 hr0 hg0 HB c2 f2 hle));have H1:=zc0 r s l1 (p+1) 4 _ S0.rd (by omega);rcases h1:zbF 4 l1 with _|⟨n,l2⟩
 ·exact zz95
 rw [h1]at H1 HD;rw [zzq0]at HD;have hn:=(zcL h1).1;rw [show(256:Nat)^4=4294967296 from rfl]at hn;go_upto_region 8 with(go_at_call 114;refine H1.mono ?_;rintro e v1 ⟨rfl,hr1,hg1⟩;have S1:=S0.call hr1 hg1;clear S0 H1 hr1 hg1);obtain⟨e1,e2,e3⟩:=zqv hn;rw [e1];clear e1 hn;generalize zbZ n=v at *;by_cases cc:v<0∨255<v
 case neg=>
  rw [if_neg cc]at HD;have k1: ¬v<0:=fun e=>cc (.inl e)
  have k2:decide (v>255)=false:=zzD (fun e=>cc (.inr e));clear cc;go_wp2_with (go_at_call 90;refine(zcC _ _).mono ?_;rintro e d1 ⟨rfl,rfl⟩);exact⟨rfl,by rw [<-HQ.out,HD.out];exact⟨rfl,S1.gr⟩⟩
 rw [if_pos cc]at HD;by_cases k1:v<0
 ·exact zz99
 ·have k2:decide (v>255)=true:=zzT (cc.resolve_left k1)
  exact zz99
theorem znI (f r:Nat) (s:ByteArray) (l:List UInt8) (p:Nat) (w:World) (h:RdL r s l p w) (hp:p+1<=2000) (HF:zqp f) (hpf:2000<=p+1+f) (n:Nat) (l1:List UInt8) (hx:zK l=some (n,l1)) (c97: ¬n=97) (c98: ¬n=98) (c110: ¬n=110) (c119: ¬n=119) (c104: ¬n=104) (c106: ¬n=106) (c108: ¬n=108) (c109: ¬n=109) (c77: ¬n=77) (c88: ¬n=88) (c90: ¬n=90):
  Calls Tryz.prog 89 #[.pointer (some ⟨r,0,none⟩)] w (zbI r s (f+1) w (zA (f+1) p l)):=by
 generalize hQ:zbI r s (f+1) w (zA (f+1) p l)=Q at *;have HQ:=zzH hQ;clear hQ;have HD:Hid (zA (f+1) p l=zc3 (zA f) (p+1) l):=zzH (by unfold zA zcZ;rw [if_pos hp,hx,zzq0,if_neg c97,if_neg c98,if_neg c110,if_neg c119,if_neg c104,if_neg c106,if_neg c108,if_neg c109,if_neg c77,if_neg c88,if_neg c90]);have n97:((n:Int)==97)=false:=zzB.2 (by omega);have n98:((n:Int)==98)=false:=zzB.2 (by omega);have n110:((n:Int)==110)=false:=zzB.2 (by omega);have n119:((n:Int)==119)=false:=zzB.2 (by omega);have n104:((n:Int)==104)=false:=zzB.2 (by omega);have n106:((n:Int)==106)=false:=zzB.2 (by omega);have n108:((n:Int)==108)=false:=zzB.2 (by omega);have n109:((n:Int)==109)=false:=zzB.2 (by omega);have n77:((n:Int)==77)=false:=zzB.2 (by omega);have n88:((n:Int)==88)=false:=zzB.2 (by omega);have n90:((n:Int)==90)=false:=zzB.2 (by omega);clear c97 c98 c110 c119 c104 c106 c108 c109 c77 c88 c90;have hle:decide ((p:Int)+1<=2000)=true:=zzT (by omega);have S0:=StO.start h;unfold zo at S0;go_in;go_upto_region 1 with fail;generalize w.alloc _=w0 at *;obtain⟨c2,f2⟩:=S0.rd.parts;go_upto_region 2 with fail;have S1:=S0.parts;clear S0 c2 f2;generalize w0.setCell _ _=w1 at *;obtain⟨c2,f2⟩:=S1.rd.parts;rw [show((p+1:Nat):Int)=(p:Int)+1 by omega]at c2;obtain⟨a,hA,ha,hal,hs⟩:=S1.rd;have e1:=zb7 hx;rw [e1.1]at hal;have HB:=zjC r s a (p+1) _ l1 w1 hA hal hs;have e0:(UInt8.ofNat n).toNat=n:=by rw [UInt8.toNat_ofNat'];omega
 rw [e0]at HB;have hal2:=hal;rw [<-e1.1]at hal2;have hsz:=zdy ha hal;rw [zzq13]at hsz;go_upto_region 37 with(first|(go_at_call 90;refine(zbg _ _).mono ?_;rintro e w2 ⟨rfl,rfl⟩)|(go_at_call 112;refine HB.mono ?_;rintro e v0 ⟨rfl,hr0,hg0⟩));have S0:=S1.call (l':=l1) (p':=p+1) ⟨a+1,hr0,by omega,(drop_one hal).2.1,hs⟩ hg0;have S2:=S0.back hr0 ha hal2 hs;obtain⟨d0,d1,d2,f1,f3⟩:=hr0.cells;clear S1 hg0 HB c2 f2 hle e0 e1 hal hA n97 n98 n110 n119 n104 n106 n108 n109 n77 n88 n90;have hlx:=zc S0.x;have hgx:=S0.gr.size;have hrl:=hr0.lt;clear S0 hr0;have hw:IntKind.i64.wrap (((a+1:Nat):Int)-1)=(a:Int):=by rw [zzq3];omega
 go_upto_region 38 with fail;clear d0 d1 d2 f1 f3 hw;have hoff:w.heap.size<(v0.setCell ⟨r,1,none⟩ (.int .i64 (a:Int))).heap.size:=by simp [World.setCell];omega
 generalize v0.setCell _ _=w3 at *;have HC:=HF r s l (p+1) w3 S2.rd hp hpf;rcases hf:zc3 (zA f) (p+1) l with _|⟨⟨t,p2⟩,l3⟩
 ·rw [hf]at HC HD
  go_wp2_with (go_at_call 120;refine HC.mono ?_;rintro e v1 ⟨rfl,hg1⟩);exact⟨rfl,by rw [<-HQ.out,HD.out];exact⟨rfl,zh S2.gr hg1⟩⟩
 rw [hf]at HC HD;go_wp2_with (go_at_call 120;refine HC.mono ?_;rintro e v1 ⟨⟨so,c,rfl,htm⟩,hr1,hg1⟩;have S3:=S2.call hr1 hg1;have hgb:=S2.gr.size;have HSL:=zzH htm.sl;clear S2 hr1 hg1 htm;obtain⟨x0,x1,x2,x3,x4,x5,x6,x7,x8,y0,y1,y2,y3,y4,y5,y6,y7,y8⟩:=zf S3.x);refine bodyPost_ret (results_cell_row rfl _ _ w.heap.size _ _ _ _ rfl (zbG _ _ _ _ _ _ _ _ _ S3.x) Tryz.underlying47 rfl (by kernel_rfl)) rfl ?_;rw [<-HQ.out,HD.out];exact⟨⟨so,c,rfl,so,c,rfl,HSL.out.off (OffB.nine _ _ _ _ _ _ _ _ _ _ _) hoff hgb⟩,(S3.fin _ _ _ _ _ _ _ _ _).1,(S3.fin _ _ _ _ _ _ _ _ _).2⟩
theorem zgO (f r:Nat) (s:ByteArray) (l:List UInt8) (p:Nat) (w:World) (h:RdL r s l p w) (hp:p<=2000) (hx:p+1<=2000->zK l=none) (hn:zA f p l=none):
  Calls Tryz.prog 89 #[.pointer (some ⟨r,0,none⟩)] w (zbI r s f w (zA f p l)):=by
 generalize hQ:zbI r s f w (zA f p l)=Q at *;have HQ:=zzH hQ;have HD:=zzH hn;clear hQ hn;have S0:=StO.start h;unfold zo at S0;go_in;go_upto_region 1 with fail;generalize w.alloc _=w0 at *;obtain⟨c2,f2⟩:=S0.rd.parts;go_upto_region 2 with fail;have S1:=S0.parts;clear S0 c2 f2;generalize w0.setCell _ _=w1 at *;obtain⟨c2,f2⟩:=S1.rd.parts;rw [show((p+1:Nat):Int)=(p:Int)+1 by omega]at c2;by_cases cp:p+1<=2000
 ·have hle:decide ((p:Int)+1<=2000)=true:=zzT (by omega)
  have HB:=zbU r s l (p+1) w1 S1.rd;rw [hx cp]at HB;go_wp2_with (first|(go_at_call 90;refine(zbg _ _).mono ?_;rintro e w2 ⟨rfl,rfl⟩)|(go_at_call 112;refine HB.mono ?_;rintro e v0 ⟨rfl,hg0⟩));exact⟨rfl,by rw [<-HQ.out,HD.out];exact⟨rfl,zh S1.gr hg0⟩⟩
 ·have hle:decide ((p:Int)+1<=2000)=false:=zzD (by omega)
  go_wp2_with (go_at_call 90;refine(zcC _ _).mono ?_;rintro e w2 ⟨rfl,rfl⟩);exact⟨rfl,by rw [<-HQ.out,HD.out];exact⟨rfl,S1.gr⟩⟩
theorem znZ (f:Nat) (HI:zgf f) (HF:zqp f):zmp (f+1):=by
 intro r s l p w h hp hpf;by_cases cp:p+1<=2000
 case neg=>exact zgO (f+1) r s l p w h hp (fun e=>absurd e cp) (by unfold zA;exact if_neg cp)
 rcases hx:zK l with _|⟨n,l1⟩
 ·exact zgO (f+1) r s l p w h hp (fun _=>hx) (by unfold zA;rw [if_pos cp,hx];rfl)
 by_cases c97:n=97
 ·subst c97;exact zqP f r s l p w h cp ⟨l1,hx⟩
 by_cases c98:n=98
 ·subst c98;exact zrT f r s l p w h cp ⟨l1,hx⟩
 by_cases c110:n=110
 ·subst c110;exact zpP f r s l p w h cp ⟨l1,hx⟩
 by_cases c119:n=119
 ·subst c119;exact zpU f r s l p w h cp ⟨l1,hx⟩
 by_cases c104:n=104
 ·subst c104;exact zqb f r s l p w h cp HI (by omega) ⟨l1,hx⟩
 by_cases c106:n=106
 ·subst c106;exact zp5 f r s l p w h cp ⟨l1,hx⟩
 by_cases c108:n=108
 ·subst c108;exact zqy f r s l p w h cp HI (by omega) ⟨l1,hx⟩
 by_cases c109:n=109
 ·subst c109;exact zpL f r s l p w h cp ⟨l1,hx⟩
 by_cases c77:n=77
 ·subst c77;exact zqS f r s l p w h cp ⟨l1,hx⟩
 by_cases c88:n=88
 ·subst c88;exact zq6 f r s l p w h cp ⟨l1,hx⟩
 by_cases c90:n=90
 ·subst c90;exact zry f r s l p w h cp ⟨l1,hx⟩
 exact znI f r s l p w h cp HF (by omega) n l1 hx c97 c98 c110 c119 c104 c106 c108 c109 c77 c88 c90
theorem zhJ: ∀f,zmp f
 |0=>fun r s l p w h hp hpf=>zgO 0 r s l p w h hp (fun e=>by omega) rfl
 |f+1=>znZ f (zia f (zhJ f)) (zpS f (zia f (zhJ f)))
def zeV (nl:Nat) (x:RIns) (a:Bool):Bool:=if a=true then zbv nl x.dst&& !(x.dst.kind==3)else zdP x.dst
def zil (x:RIns) (r:RRow):Bool:=(r.c||x.n==0)&&((r.d||x.name.toList.isEmpty)&&((r.e||(x.cases.length:Int)==0)&&((r.f||(x.segs.length:Int)==0)&&(r.g||x.to==0))))
def zeD (nl:Nat) (x:RIns) (r:RRow):Bool:=zeV nl x r.a&&((wi x.src.length r.lo r.hi&&((r.h||x.live==0)&&wi x.live 0 256))&&(x.src.all (zbv nl)&&zil x r))
theorem zr0 (n:Nat):((n:Int)==0)=(n==0):=by rw [Bool.eq_iff_iff,beq_iff_eq,beq_iff_eq];omega
theorem zju (nl:Nat) (x:RIns) (h lo hi:Nat):zeD nl x ⟨zm h 1,zm h 2,zm h 4,zm h 8,zm h 16,zm h 32,zm h 64,zm h 128,lo,hi⟩=zbd nl x h lo hi:=by
 unfold zeD zbd zil zeV zfw zdP;simp only [zr0];have e:(x.dst.kind==3)=decide (x.dst.kind=3):=by rw [Bool.eq_iff_iff,beq_iff_eq,decide_eq_true_eq]
 rw [e]
 have e2:(if zm h 1=true then !decide (x.dst.kind=3)&&zbv nl x.dst else decide (x.dst.kind=0)&&decide (x.dst.n=0))=(if zm h 1=true then zbv nl x.dst&& !decide (x.dst.kind=3)else decide (x.dst.kind=0)&&decide (x.dst.n=0)):=by
  split
  ·exact Bool.and_comm _ _
  ·rfl
 rw [e2];generalize(if zm h 1=true then zbv nl x.dst&& !decide (x.dst.kind=3)else decide (x.dst.kind=0)&&decide (x.dst.n=0))=q0
 ac_rfl
theorem zkC (w:World) (u:RUnit) (lo fo go co:Option Addr) (lc fc gc cc:Nat) (x:RIns) (so co' go':Option Addr) (sc cc' gc':Nat) (cs:Array Value):UBox (((w.alloc (.cells #[.string u.mdl,.int .i64 u.vsn,.slice lo u.lits.length lc,.slice fo u.funcs.length fc,.slice go u.funs.length gc,.slice co u.code.length cc] 28)).alloc (.cells #[.int .i64 x.op,.int .i64 x.dst.kind,.int .i64 x.dst.n,.slice so x.src.length sc,.int .i64 x.to,.int .i64 x.n,.int .i64 x.live,.string x.name,.slice co' x.cases.length cc',.slice go' x.segs.length gc'] 64)).alloc (.cells cs 133)) w.heap.size u lo fo go co lc fc gc cc/\XBox (((w.alloc (.cells #[.string u.mdl,.int .i64 u.vsn,.slice lo u.lits.length lc,.slice fo u.funcs.length fc,.slice go u.funs.length gc,.slice co u.code.length cc] 28)).alloc (.cells #[.int .i64 x.op,.int .i64 x.dst.kind,.int .i64 x.dst.n,.slice so x.src.length sc,.int .i64 x.to,.int .i64 x.n,.int .i64 x.live,.string x.name,.slice co' x.cases.length cc',.slice go' x.segs.length gc'] 64)).alloc (.cells cs 133)) (w.heap.size+1) x so co' go' sc cc' gc' /\
  (((w.alloc (.cells #[.string u.mdl,.int .i64 u.vsn,.slice lo u.lits.length lc,.slice fo u.funcs.length fc,.slice go u.funs.length gc,.slice co u.code.length cc] 28)).alloc (.cells #[.int .i64 x.op,.int .i64 x.dst.kind,.int .i64 x.dst.n,.slice so x.src.length sc,.int .i64 x.to,.int .i64 x.n,.int .i64 x.live,.string x.name,.slice co' x.cases.length cc',.slice go' x.segs.length gc'] 64)).alloc (.cells cs 133)).heap[w.heap.size+1+1]?=some (.cells cs 133 (0,0))/\Below w.heap.size w (((w.alloc (.cells #[.string u.mdl,.int .i64 u.vsn,.slice lo u.lits.length lc,.slice fo u.funcs.length fc,.slice go u.funs.length gc,.slice co u.code.length cc] 28)).alloc (.cells #[.int .i64 x.op,.int .i64 x.dst.kind,.int .i64 x.dst.n,.slice so x.src.length sc,.int .i64 x.to,.int .i64 x.n,.int .i64 x.live,.string x.name,.slice co' x.cases.length cc',.slice go' x.segs.length gc'] 64)).alloc (.cells cs 133)):=by
 obtain⟨h1,h2,h3⟩:=zbQ w u lo fo go co lc fc gc cc x so co' go' sc cc' gc';have s:((w.alloc (.cells (zzu u lo lc fo fc go gc co cc) 28)).alloc (.cells (zzi x so sc co' cc' go' gc') 64)).heap.size=w.heap.size+1+1:=by simp
 have hb:=(zzR ((w.alloc (.cells (zzu u lo lc fo fc go gc co cc) 28)).alloc (.cells (zzi x so sc co' cc' go' gc') 64)).heap.size ((w.alloc (.cells (zzu u lo lc fo fc go gc co cc) 28)).alloc (.cells (zzi x so sc co' cc' go' gc') 64))).alloc (zzL _) (.cells cs 133);refine⟨h1.below hb,h2.below hb,?_,h3.trans (hb.mono (by rw [s];omega))⟩;rw [<-s];exact heap_alloc_new _ _
theorem zk0 (u:RUnit) (lo fo go co:Option Addr) (lc fc gc cc:Nat) (x:RIns) (so co' go':Option Addr) (sc cc' gc':Nat) (r:RRow) (w:World) (hl:u.lits.length<=9223372036854775807) (hsrc:SlAt w 2 zdj so x.src) (hdk:I64 x.dst.kind/\I64 x.dst.n) (r2:x.src.length<=9223372036854775807) (r3:x.cases.length<=9223372036854775807) (r4:x.segs.length<=9223372036854775807):
  Calls Tryz.prog 74 #[.agg (zzu u lo lc fo fc go gc co cc),.agg (zzi x so sc co' cc' go' gc'),.agg r.val] w fun e w'=>e= .returned (.bool (zeD u.lits.length x r))/\Below w.heap.size w w':=by
 unfold zzi zzu;obtain⟨a,b,c,d,e,f,g,h,l1,l2⟩:=r;have HF:Hid (zeD u.lits.length x ⟨a,b,c,d,e,f,g,h,l1,l2⟩=(zeV u.lits.length x a&&((wi x.src.length l1 l2&&((h||x.live==0)&&wi x.live 0 256))&&(x.src.all (zbv u.lits.length)&&zil x ⟨a,b,c,d,e,f,g,h,l1,l2⟩)))):=zzH rfl;have HR:Hid (zil x ⟨a,b,c,d,e,f,g,h,l1,l2⟩=((c||x.n==0)&&((d||x.name.toList.isEmpty)&&((e||(x.cases.length:Int)==0)&&((f||(x.segs.length:Int)==0)&&(g||x.to==0)))))):=zzH rfl;have HD1:Hid (zeV u.lits.length x true=(zbv u.lits.length x.dst&& !(x.dst.kind==3))):=zzH rfl;have HD2:Hid (zeV u.lits.length x false=zdP x.dst):=zzH rfl;have HSR:=zzH hsrc;clear hsrc;generalize zeD u.lits.length x ⟨a,b,c,d,e,f,g,h,l1,l2⟩=fb at *;generalize zil x ⟨a,b,c,d,e,f,g,h,l1,l2⟩=rb at *;go_in;go_upto_region 1 with fail;obtain⟨hU,hX,hR,hBW⟩:=zkC w u lo fo go co lc fc gc cc x so co' go' sc cc' gc' #[.bool a,.bool b,.bool c,.bool d,.bool e,.bool f,.bool g,.bool h,.int .i64 l1,.int .i64 l2];have HBW:=zzH hBW;clear hBW;simp only [RRow.val]at hR ⊢;generalize((w.alloc (.cells #[.string u.mdl,.int .i64 u.vsn,.slice lo u.lits.length lc,.slice fo u.funcs.length fc,.slice go u.funs.length gc,.slice co u.code.length cc] 28)).alloc (.cells #[.int .i64 x.op,.int .i64 x.dst.kind,.int .i64 x.dst.n,.slice so x.src.length sc,.int .i64 x.to,.int .i64 x.n,.int .i64 x.live,.string x.name,.slice co' x.cases.length cc',.slice go' x.segs.length gc'] 64)).alloc (.cells #[.bool a,.bool b,.bool c,.bool d,.bool e,.bool f,.bool g,.bool h,.int .i64 l1,.int .i64 l2] 133)=W at *;generalize hBz:w.heap.size=B at *;have HBZ:=zzH hBz;clear hBz;have HU:=zzH hU;have HX:=zzH hX;have HRB:=zzH hR;clear hU hX hR;have hU1:=HU.out.below (zzR W.heap.size W);have hX1:=HX.out.below (zzR W.heap.size W);have hR1:=((zzR W.heap.size W).block _ (zc HRB.out)).trans HRB.out;have b0:=hU1.c0;have b1:=hU1.c1;have b2:=hU1.c2;have b3:=hU1.c3;have b4:=hU1.c4;have b5:=hU1.c5;have c0:=hX1.c0;have c1:=hX1.c1;have c2:=hX1.c2;have c3:=hX1.c3;have c4:=hX1.c4;have c5:=hX1.c5;have c6:=hX1.c6;have c7:=hX1.c7;have c8:=hX1.c8;have c9:=hX1.c9;obtain ⟨q0,q1,q2,q3,q4,q5,q6,q7,q8,q9⟩:=zzc10 hR1;have hlu:=hU1.lt;have hlx:=hX1.lt;have hlr:=zc hR1;clear hU1 hX1 hR1;go_cut [33] (fun sv wx=> ∃v:Bool,sv= .bool v/\Hid (zeV u.lits.length x a= !v)/\Hid (Below W.heap.size W wx))
 case first=>
  cases a with
  |true=>
   have hop:=zeX u lo fo go co lc fc gc cc x.dst W hl hdk
   cases hq:zbv u.lits.length x.dst with
   |false=>
    have E:Hid (zeV u.lits.length x true= !true):=zzH (by rw [HD1.out,hq];rfl);rw [hq]at hop;exact zz191
   |true=>
    rw [hq]at hop
    cases hk:(x.dst.kind==3)with
    |true=>
     have E:Hid (zeV u.lits.length x true= !true):=zzH (by rw [HD1.out,hq,hk];rfl);exact zz191
    |false=>
     have E:Hid (zeV u.lits.length x true= !false):=zzH (by rw [HD1.out,hq,hk];rfl);clear hq;go_wp2_with fail;refine hop.mono ?_;rintro e9 w1 ⟨rfl,hb1⟩;clear b0 b1 b2 b3 b4 b5 c0 c1 c2 c3 c4 c5 c6 c7 c8 c9 q0 q1 q2 q3 q4 q5 q6 q7 q8 q9 hlu hlx hlr;have hU1:=HU.out.below hb1;have hX1:=HX.out.below hb1;have hR1:=(hb1.block _ (zc HRB.out)).trans HRB.out;have b0:=hU1.c0;have b1:=hU1.c1;have b2:=hU1.c2;have b3:=hU1.c3;have b4:=hU1.c4;have b5:=hU1.c5;have c0:=hX1.c0;have c1:=hX1.c1;have c2:=hX1.c2;have c3:=hX1.c3;have c4:=hX1.c4;have c5:=hX1.c5;have c6:=hX1.c6;have c7:=hX1.c7;have c8:=hX1.c8;have c9:=hX1.c9;obtain ⟨q0,q1,q2,q3,q4,q5,q6,q7,q8,q9⟩:=zzc10 hR1;have hlu:=hU1.lt;have hlx:=hX1.lt;have hlr:=zc hR1;clear hU1 hX1 hR1;go_wp2_with fail;go_meet
     case rel=>exact⟨false,rfl,E,zzH hb1⟩
  |false=>
   have hno:=zgX x.dst W
   cases hq:zdP x.dst with
   |false=>
    have E:Hid (zeV u.lits.length x false= !true):=zzH (by rw [HD2.out,hq];rfl);rw [hq]at hno;clear hq;go_wp2_with fail;refine hno.mono ?_;rintro e9 w1 ⟨rfl,hb1⟩;go_wp2_with fail;go_meet
    case rel=>exact⟨true,rfl,E,zzH hb1⟩
   |true=>
    have E:Hid (zeV u.lits.length x false= !false):=zzH (by rw [HD2.out,hq];rfl);rw [hq]at hno;clear hq;go_wp2_with fail;refine hno.mono ?_;rintro e9 w1 ⟨rfl,hb1⟩;go_wp2_with fail;go_meet
    case rel=>exact⟨false,rfl,E,zzH hb1⟩
 case rest=>
  obtain⟨v,rfl,HV,HB1⟩:=hcut;clear b0 b1 b2 b3 b4 b5 c0 c1 c2 c3 c4 c5 c6 c7 c8 c9 q0 q1 q2 q3 q4 q5 q6 q7 q8 q9 hlu hlx hlr;have hl1:=HB1.out.size;have HFIN:Hid (∀wx,Below W.heap.size W wx->Below B w wx):=zzH (fun wx hh=>HBW.out.trans (hh.mono (by have:=HBW.out.size;have:=HBZ.out;omega)))
  cases v with
  |true=>
   have E:Hid (fb=false):=zzH (by rw [HF.out,HV.out];rfl);go_wp2_with fail;go_ret;exact⟨zr E.out.symm,by rw [HBZ.out];exact HFIN.out _ HB1.out⟩
  |false=>
   have HF1:Hid (fb=((wi x.src.length l1 l2&&((h||x.live==0)&&wi x.live 0 256))&&(x.src.all (zbv u.lits.length)&&rb))):=zzH (by rw [HF.out,HV.out];rfl);clear HF HV;go_upto_region 3 with fail;have hU1:=HU.out.below HB1.out;have hX1:=HX.out.below HB1.out;have hR1:=(HB1.out.block _ (zc HRB.out)).trans HRB.out;have b0:=hU1.c0;have b1:=hU1.c1;have b2:=hU1.c2;have b3:=hU1.c3;have b4:=hU1.c4;have b5:=hU1.c5;have c0:=hX1.c0;have c1:=hX1.c1;have c2:=hX1.c2;have c3:=hX1.c3;have c4:=hX1.c4;have c5:=hX1.c5;have c6:=hX1.c6;have c7:=hX1.c7;have c8:=hX1.c8;have c9:=hX1.c9;obtain ⟨q0,q1,q2,q3,q4,q5,q6,q7,q8,q9⟩:=zzc10 hR1;have hlu:=hU1.lt;have hlx:=hX1.lt;have hlr:=zc hR1;clear hU1 hX1 hR1;go_cut [58] (fun sv wx=> ∃v:Bool,sv= .bool v/\Hid ((wi x.src.length l1 l2&&((h||x.live==0)&&wi x.live 0 256))= !v)/\wc=wx)
   case first=>
    have hw1:=fun wx=>zO x.src.length l1 l2 wx
    have hw2:=fun wx=>zO x.live 0 256 wx
    have HW1:=zzH hw1;have HW2:=zzH hw2;clear hw1 hw2
    cases hv1:wi x.src.length l1 l2 with
    |false=>
     rw [hv1]at HW1;go_wp2_with fail;refine(HW1.out _).mono ?_;rintro e9 w1 ⟨rfl,rfl⟩;go_wp2_with fail;go_meet
     case rel=>exact⟨true,rfl,zzH (by rw [hv1];rfl),rfl⟩
    |true=>
     rw [hv1]at HW1
     cases h with
     |true=>
      cases hv2:wi x.live 0 256 with
      |false=>
       rw [hv2]at HW2;go_wp2_with fail;refine(HW1.out _).mono ?_;rintro e9 w1 ⟨rfl,rfl⟩;go_wp2_with fail;refine(HW2.out _).mono ?_;rintro e9 w1 ⟨rfl,rfl⟩;go_wp2_with fail;go_meet
       case rel=>exact⟨true,rfl,zzH (by rw [hv1,hv2];rfl),rfl⟩
      |true=>
       rw [hv2]at HW2;go_wp2_with fail;refine(HW1.out _).mono ?_;rintro e9 w1 ⟨rfl,rfl⟩;go_wp2_with fail;refine(HW2.out _).mono ?_;rintro e9 w1 ⟨rfl,rfl⟩;go_wp2_with fail;go_meet
       case rel=>exact⟨false,rfl,zzH (by rw [hv1,hv2];rfl),rfl⟩
     |false=>
      cases t0:(x.live==0)with
      |false=>
       have t0' : (x.live != 0) = true := by rw [bne_iff_ne]; exact zzB.1 t0
       go_wp2_with fail;refine(HW1.out _).mono ?_;rintro e9 w1 ⟨rfl,rfl⟩;go_wp2_with fail;go_meet
       case rel=>exact⟨true,rfl,zzH (by rw [hv1,t0];rfl),rfl⟩
      |true=>
       have t0' : (x.live != 0) = false := by rw [bne_eq_false_iff_eq]; exact eq_of_beq t0
       cases hv2:wi x.live 0 256 with
       |false=>
        rw [hv2]at HW2;go_wp2_with fail;refine(HW1.out _).mono ?_;rintro e9 w1 ⟨rfl,rfl⟩;go_wp2_with fail;refine(HW2.out _).mono ?_;rintro e9 w1 ⟨rfl,rfl⟩;go_wp2_with fail;go_meet
        case rel=>exact⟨true,rfl,zzH (by rw [hv1,hv2,t0];rfl),rfl⟩
       |true=>
        rw [hv2]at HW2;go_wp2_with fail;refine(HW1.out _).mono ?_;rintro e9 w1 ⟨rfl,rfl⟩;go_wp2_with fail;refine(HW2.out _).mono ?_;rintro e9 w1 ⟨rfl,rfl⟩;go_wp2_with fail;go_meet
        case rel=>exact⟨false,rfl,zzH (by rw [hv1,hv2,t0];rfl),rfl⟩
   case rest=>
    obtain⟨v,rfl,HV,rfl⟩:=hcut
    cases v with
    |true=>
     have E:Hid (fb=false):=zzH (by rw [HF1.out,HV.out];rfl);go_wp2_with fail;go_ret;exact⟨zr E.out.symm,by rw [HBZ.out];exact HFIN.out _ HB1.out⟩
    |false=>
     have HF2:Hid (fb=(x.src.all (zbv u.lits.length)&&rb)):=zzH (by rw [HF1.out,HV.out];rfl);clear HF1 HV;go_wp2_with fail;clear b0 b1 b2 b3 b4 b5 c0 c1 c2 c3 c4 c5 c6 c7 c8 c9 q0 q1 q2 q3 q4 q5 q6 q7 q8 q9 hlu hlx hlr;go_loopw [7] (fun iv wr=> ∃k:Nat,k<=x.src.length/\iv= .int .i64 k/\Hid (∀j (hj:j<x.src.length),j<k->zbv u.lits.length x.src[j]=true)/\Hid (Below W.heap.size W wr)) (fun iv _=>x.src.length-(intOf iv).toNat)
     case atStart=>exact⟨0,zzZ _,rfl,zzH (fun j _ hj=>absurd hj (Nat.not_lt_zero _)),HB1⟩
     case round=>
      obtain⟨k,hk,rfl,HK,HBk⟩:=hrel;rename World=>wr
      have hU1:=HU.out.below HBk.out;have hX1:=HX.out.below HBk.out;have hR1:=(HBk.out.block _ (zc HRB.out)).trans HRB.out;have b0:=hU1.c0;have b1:=hU1.c1;have b2:=hU1.c2;have b3:=hU1.c3;have b4:=hU1.c4;have b5:=hU1.c5;have c0:=hX1.c0;have c1:=hX1.c1;have c2:=hX1.c2;have c3:=hX1.c3;have c4:=hX1.c4;have c5:=hX1.c5;have c6:=hX1.c6;have c7:=hX1.c7;have c8:=hX1.c8;have c9:=hX1.c9;obtain ⟨q0,q1,q2,q3,q4,q5,q6,q7,q8,q9⟩:=zzc10 hR1;have hlu:=hU1.lt;have hlx:=hX1.lt;have hlr:=zc hR1;clear hU1 hX1 hR1;by_cases hlt:k<x.src.length
      ·obtain⟨b9,off,hao,hb9,p0,p1,i0,i1⟩:=(HSR.out.mono (by rw [HBZ.out];exact HFIN.out _ HBk.out) fun _ _ hh=>hh).arg hlt
       subst hao
       have HE:Hid (zbv u.lits.length x.src[k]=false->fb=false):=zzH (fun hf=>by
        have:x.src.all (zbv u.lits.length)=false:=by
         rw [List.all_eq_false];exact⟨x.src[k],List.getElem_mem hlt,by rw [hf];decide⟩
        rw [HF2.out,this];rfl)
       have HN:Hid (zbv u.lits.length x.src[k]=true-> ∀j (hj:j<x.src.length),j<k+1->zbv u.lits.length x.src[j]=true):=zzH (fun hne j hj hjk=>by
        rcases Nat.eq_or_lt_of_le (Nat.le_of_lt_succ hjk)with e9|e9
        ·subst e9;exact hne
        ·exact HK.out j hj e9)
       generalize x.src[k]=ar at *;have hop:=fun wx=>zeX u lo fo go co lc fc gc cc ar wx hl ⟨i0,i1⟩
       have hdr:Below wr.heap.size wr wr.drew:=(zzR _ _).drew
       cases hq:zbv u.lits.length ar with
       |false=>
        have E:=zzH (HE.out hq);rw [hq]at hop;have HOP:=zzH hop;clear hq hop HE HN;go_wp2_with fail;have HS0:=zzH (show(fun w'=>w'.cell? ⟨B,0,none⟩=some (.string u.mdl)/\w'.cell? ⟨B,1,none⟩=some (.int .i64 u.vsn)/\w'.cell? ⟨B,2,none⟩=some (.slice lo u.lits.length lc)/\w'.cell? ⟨B,3,none⟩=some (.slice fo u.funcs.length fc)/\w'.cell? ⟨B,4,none⟩=some (.slice go u.funs.length gc)/\w'.cell? ⟨B,5,none⟩=some (.slice co u.code.length cc)/\w'.cell? ⟨B+1,3,none⟩=some (.slice (some ⟨b9,off,none⟩) x.src.length sc)/\w'.cell? ⟨b9,off+k*2,none⟩=some (.int .i64 ar.kind)/\w'.cell? ⟨b9,off+k*2+1,none⟩=some (.int .i64 ar.n)) wr.drew from⟨(hdr.cell (p:=⟨B,0,none⟩) hlu).trans b0,(hdr.cell (p:=⟨B,1,none⟩) hlu).trans b1,(hdr.cell (p:=⟨B,2,none⟩) hlu).trans b2,(hdr.cell (p:=⟨B,3,none⟩) hlu).trans b3,(hdr.cell (p:=⟨B,4,none⟩) hlu).trans b4,(hdr.cell (p:=⟨B,5,none⟩) hlu).trans b5,(hdr.cell (p:=⟨B+1,3,none⟩) hlx).trans c3,(hdr.cell (p:=⟨b9,off+k*2,none⟩) hb9).trans p0,(hdr.cell (p:=⟨b9,off+k*2+1,none⟩) hb9).trans p1⟩)
        first|go_region_held3 (fun w'=>w'.cell? ⟨B,0,none⟩=some (.string u.mdl)/\w'.cell? ⟨B,1,none⟩=some (.int .i64 u.vsn)/\w'.cell? ⟨B,2,none⟩=some (.slice lo u.lits.length lc)/\w'.cell? ⟨B,3,none⟩=some (.slice fo u.funcs.length fc)/\w'.cell? ⟨B,4,none⟩=some (.slice go u.funs.length gc)/\w'.cell? ⟨B,5,none⟩=some (.slice co u.code.length cc)/\w'.cell? ⟨B+1,3,none⟩=some (.slice (some ⟨b9,off,none⟩) x.src.length sc)/\w'.cell? ⟨b9,off+k*2,none⟩=some (.int .i64 ar.kind)/\w'.cell? ⟨b9,off+k*2+1,none⟩=some (.int .i64 ar.n)) (first|with_reducible exact HS0.out|with_reducible exact HS5.out) ((go_at_call 101;refine(HOP.out _).mono ?_;rintro e9 w5 ⟨rfl,hb5⟩;have HS5:=zzH (show(fun w'=>w'.cell? ⟨B,0,none⟩=some (.string u.mdl)/\w'.cell? ⟨B,1,none⟩=some (.int .i64 u.vsn)/\w'.cell? ⟨B,2,none⟩=some (.slice lo u.lits.length lc)/\w'.cell? ⟨B,3,none⟩=some (.slice fo u.funcs.length fc)/\w'.cell? ⟨B,4,none⟩=some (.slice go u.funs.length gc)/\w'.cell? ⟨B,5,none⟩=some (.slice co u.code.length cc)/\w'.cell? ⟨B+1,3,none⟩=some (.slice (some ⟨b9,off,none⟩) x.src.length sc)/\w'.cell? ⟨b9,off+k*2,none⟩=some (.int .i64 ar.kind)/\w'.cell? ⟨b9,off+k*2+1,none⟩=some (.int .i64 ar.n)) w5 from⟨((ze hdr hb5).cell (p:=⟨B,0,none⟩) hlu).trans b0,((ze hdr hb5).cell (p:=⟨B,1,none⟩) hlu).trans b1,((ze hdr hb5).cell (p:=⟨B,2,none⟩) hlu).trans b2,((ze hdr hb5).cell (p:=⟨B,3,none⟩) hlu).trans b3,((ze hdr hb5).cell (p:=⟨B,4,none⟩) hlu).trans b4,((ze hdr hb5).cell (p:=⟨B,5,none⟩) hlu).trans b5,((ze hdr hb5).cell (p:=⟨B+1,3,none⟩) hlx).trans c3,((ze hdr hb5).cell (p:=⟨b9,off+k*2,none⟩) hb9).trans p0,((ze hdr hb5).cell (p:=⟨b9,off+k*2+1,none⟩) hb9).trans p1⟩)))|fail
        go_wp2_with fail;go_ret;exact⟨zr E.out.symm,by rw [HBZ.out];exact HFIN.out _ (ze HBk.out (ze hdr hb5))⟩
       |true=>
        have HN2:=zzH (HN.out hq);rw [hq]at hop;have HOP:=zzH hop;clear hq hop HE HN;go_wp2_with fail;have HS0:=zzH (show(fun w'=>w'.cell? ⟨B,0,none⟩=some (.string u.mdl)/\w'.cell? ⟨B,1,none⟩=some (.int .i64 u.vsn)/\w'.cell? ⟨B,2,none⟩=some (.slice lo u.lits.length lc)/\w'.cell? ⟨B,3,none⟩=some (.slice fo u.funcs.length fc)/\w'.cell? ⟨B,4,none⟩=some (.slice go u.funs.length gc)/\w'.cell? ⟨B,5,none⟩=some (.slice co u.code.length cc)/\w'.cell? ⟨B+1,3,none⟩=some (.slice (some ⟨b9,off,none⟩) x.src.length sc)/\w'.cell? ⟨b9,off+k*2,none⟩=some (.int .i64 ar.kind)/\w'.cell? ⟨b9,off+k*2+1,none⟩=some (.int .i64 ar.n)) wr.drew from⟨(hdr.cell (p:=⟨B,0,none⟩) hlu).trans b0,(hdr.cell (p:=⟨B,1,none⟩) hlu).trans b1,(hdr.cell (p:=⟨B,2,none⟩) hlu).trans b2,(hdr.cell (p:=⟨B,3,none⟩) hlu).trans b3,(hdr.cell (p:=⟨B,4,none⟩) hlu).trans b4,(hdr.cell (p:=⟨B,5,none⟩) hlu).trans b5,(hdr.cell (p:=⟨B+1,3,none⟩) hlx).trans c3,(hdr.cell (p:=⟨b9,off+k*2,none⟩) hb9).trans p0,(hdr.cell (p:=⟨b9,off+k*2+1,none⟩) hb9).trans p1⟩)
        first|go_region_held3 (fun w'=>w'.cell? ⟨B,0,none⟩=some (.string u.mdl)/\w'.cell? ⟨B,1,none⟩=some (.int .i64 u.vsn)/\w'.cell? ⟨B,2,none⟩=some (.slice lo u.lits.length lc)/\w'.cell? ⟨B,3,none⟩=some (.slice fo u.funcs.length fc)/\w'.cell? ⟨B,4,none⟩=some (.slice go u.funs.length gc)/\w'.cell? ⟨B,5,none⟩=some (.slice co u.code.length cc)/\w'.cell? ⟨B+1,3,none⟩=some (.slice (some ⟨b9,off,none⟩) x.src.length sc)/\w'.cell? ⟨b9,off+k*2,none⟩=some (.int .i64 ar.kind)/\w'.cell? ⟨b9,off+k*2+1,none⟩=some (.int .i64 ar.n)) (first|with_reducible exact HS0.out|with_reducible exact HS5.out) ((go_at_call 101;refine(HOP.out _).mono ?_;rintro e9 w5 ⟨rfl,hb5⟩;have HS5:=zzH (show(fun w'=>w'.cell? ⟨B,0,none⟩=some (.string u.mdl)/\w'.cell? ⟨B,1,none⟩=some (.int .i64 u.vsn)/\w'.cell? ⟨B,2,none⟩=some (.slice lo u.lits.length lc)/\w'.cell? ⟨B,3,none⟩=some (.slice fo u.funcs.length fc)/\w'.cell? ⟨B,4,none⟩=some (.slice go u.funs.length gc)/\w'.cell? ⟨B,5,none⟩=some (.slice co u.code.length cc)/\w'.cell? ⟨B+1,3,none⟩=some (.slice (some ⟨b9,off,none⟩) x.src.length sc)/\w'.cell? ⟨b9,off+k*2,none⟩=some (.int .i64 ar.kind)/\w'.cell? ⟨b9,off+k*2+1,none⟩=some (.int .i64 ar.n)) w5 from⟨((ze hdr hb5).cell (p:=⟨B,0,none⟩) hlu).trans b0,((ze hdr hb5).cell (p:=⟨B,1,none⟩) hlu).trans b1,((ze hdr hb5).cell (p:=⟨B,2,none⟩) hlu).trans b2,((ze hdr hb5).cell (p:=⟨B,3,none⟩) hlu).trans b3,((ze hdr hb5).cell (p:=⟨B,4,none⟩) hlu).trans b4,((ze hdr hb5).cell (p:=⟨B,5,none⟩) hlu).trans b5,((ze hdr hb5).cell (p:=⟨B+1,3,none⟩) hlx).trans c3,((ze hdr hb5).cell (p:=⟨b9,off+k*2,none⟩) hb9).trans p0,((ze hdr hb5).cell (p:=⟨b9,off+k*2+1,none⟩) hb9).trans p1⟩)))|fail
        go_wp2_with fail;go_roundw
        case rel=>exact⟨k+1,by omega,by go_num,HN2,zzH (ze HBk.out (ze hdr hb5))⟩
        case measure=>simp [intOf];omega
      ·have HALL:Hid (x.src.all (zbv u.lits.length)=true):=zzH (by
        rw [List.all_eq_true];intro ar ha;obtain⟨j,hj,rfl⟩:=List.getElem_of_mem ha;exact HK.out j hj (by omega))
       have HF3:Hid (fb=((c||x.n==0)&&((d||x.name.toList.isEmpty)&&((e||(x.cases.length:Int)==0)&&((f||(x.segs.length:Int)==0)&&(g||x.to==0)))))):=zzH (by rw [HF2.out,HALL.out,HR.out];rfl);clear HALL HF2 HR
       cases c with
       |true=>
        cases d with
        |true=>
         cases e with
         |true=>
          cases f with
          |true=>
           cases g with
           |true=>
            have E:Hid (fb=true):=zzH (by rw [HF3.out];simp only [zzX2]);exact zz192
           |false=>
            cases z4:(x.to==0)with
            |false=>
             have E:Hid (fb=false):=zzH (by rw [HF3.out,z4];simp only [zzX3]);exact zz192
            |true=>
             have E:Hid (fb=true):=zzH (by rw [HF3.out,z4];simp only [zzX2]);exact zz192
          |false=>
           cases z3:((x.segs.length:Int)==0)with
           |false=>
            have E:Hid (fb=false):=zzH (by rw [HF3.out,z3];simp only [zzX3]);exact zz192
           |true=>
            cases g with
            |true=>
             have E:Hid (fb=true):=zzH (by rw [HF3.out,z3];simp only [zzX2]);exact zz192
            |false=>
             cases z4:(x.to==0)with
             |false=>
              have E:Hid (fb=false):=zzH (by rw [HF3.out,z3,z4];simp only [zzX3]);exact zz192
             |true=>
              have E:Hid (fb=true):=zzH (by rw [HF3.out,z3,z4];simp only [zzX2]);exact zz192
         |false=>
          cases z2:((x.cases.length:Int)==0)with
          |false=>
           have E:Hid (fb=false):=zzH (by rw [HF3.out,z2];simp only [zzX3]);exact zz192
          |true=>
           cases f with
           |true=>
            cases g with
            |true=>
             have E:Hid (fb=true):=zzH (by rw [HF3.out,z2];simp only [zzX2]);exact zz192
            |false=>
             cases z4:(x.to==0)with
             |false=>
              have E:Hid (fb=false):=zzH (by rw [HF3.out,z2,z4];simp only [zzX3]);exact zz192
             |true=>
              have E:Hid (fb=true):=zzH (by rw [HF3.out,z2,z4];simp only [zzX2]);exact zz192
           |false=>
            cases z3:((x.segs.length:Int)==0)with
            |false=>
             have E:Hid (fb=false):=zzH (by rw [HF3.out,z2,z3];simp only [zzX3]);exact zz192
            |true=>
             cases g with
             |true=>
              have E:Hid (fb=true):=zzH (by rw [HF3.out,z2,z3];simp only [zzX2]);exact zz192
             |false=>
              cases z4:(x.to==0)with
              |false=>
               have E:Hid (fb=false):=zzH (by rw [HF3.out,z2,z3,z4];simp only [zzX3]);exact zz192
              |true=>
               have E:Hid (fb=true):=zzH (by rw [HF3.out,z2,z3,z4];simp only [zzX2]);exact zz192
        |false=>
         cases z1:x.name.toList.isEmpty with
         |false=>
          have z1':(x.name.toList== [])=false:=by rw [<-z1];cases x.name.toList<;>rfl
          have E:Hid (fb=false):=zzH (by rw [HF3.out,z1];simp only [zzX3]);exact zz192
         |true=>
          have z1':(x.name.toList== [])=true:=by rw [<-z1];cases x.name.toList<;>rfl
          cases e with
          |true=>
           cases f with
           |true=>
            cases g with
            |true=>
             have E:Hid (fb=true):=zzH (by rw [HF3.out,z1];simp only [zzX2]);exact zz192
            |false=>
             cases z4:(x.to==0)with
             |false=>
              have E:Hid (fb=false):=zzH (by rw [HF3.out,z1,z4];simp only [zzX3]);exact zz192
             |true=>
              have E:Hid (fb=true):=zzH (by rw [HF3.out,z1,z4];simp only [zzX2]);exact zz192
           |false=>
            cases z3:((x.segs.length:Int)==0)with
            |false=>
             have E:Hid (fb=false):=zzH (by rw [HF3.out,z1,z3];simp only [zzX3]);exact zz192
            |true=>
             cases g with
             |true=>
              have E:Hid (fb=true):=zzH (by rw [HF3.out,z1,z3];simp only [zzX2]);exact zz192
             |false=>
              cases z4:(x.to==0)with
              |false=>
               have E:Hid (fb=false):=zzH (by rw [HF3.out,z1,z3,z4];simp only [zzX3]);exact zz192
              |true=>
               have E:Hid (fb=true):=zzH (by rw [HF3.out,z1,z3,z4];simp only [zzX2]);exact zz192
          |false=>
           cases z2:((x.cases.length:Int)==0)with
           |false=>
            have E:Hid (fb=false):=zzH (by rw [HF3.out,z1,z2];simp only [zzX3]);exact zz192
           |true=>
            cases f with
            |true=>
             cases g with
             |true=>
              have E:Hid (fb=true):=zzH (by rw [HF3.out,z1,z2];simp only [zzX2]);exact zz192
             |false=>
              cases z4:(x.to==0)with
              |false=>
               have E:Hid (fb=false):=zzH (by rw [HF3.out,z1,z2,z4];simp only [zzX3]);exact zz192
              |true=>
               have E:Hid (fb=true):=zzH (by rw [HF3.out,z1,z2,z4];simp only [zzX2]);exact zz192
            |false=>
             cases z3:((x.segs.length:Int)==0)with
             |false=>
              have E:Hid (fb=false):=zzH (by rw [HF3.out,z1,z2,z3];simp only [zzX3]);exact zz192
             |true=>
              cases g with
              |true=>
               have E:Hid (fb=true):=zzH (by rw [HF3.out,z1,z2,z3];simp only [zzX2]);exact zz192
              |false=>
               cases z4:(x.to==0)with
               |false=>
                have E:Hid (fb=false):=zzH (by rw [HF3.out,z1,z2,z3,z4];simp only [zzX3]);exact zz192
               |true=>
                have E:Hid (fb=true):=zzH (by rw [HF3.out,z1,z2,z3,z4];simp only [zzX2]);exact zz192
       |false=>
        cases z0:(x.n==0)with
        |false=>
         have E:Hid (fb=false):=zzH (by rw [HF3.out,z0];simp only [zzX3]);exact zz192
        |true=>
         cases d with
         |true=>
          cases e with
          |true=>
           cases f with
           |true=>
            cases g with
            |true=>
             have E:Hid (fb=true):=zzH (by rw [HF3.out,z0];simp only [zzX2]);exact zz192
            |false=>
             cases z4:(x.to==0)with
             |false=>
              have E:Hid (fb=false):=zzH (by rw [HF3.out,z0,z4];simp only [zzX3]);exact zz192
             |true=>
              have E:Hid (fb=true):=zzH (by rw [HF3.out,z0,z4];simp only [zzX2]);exact zz192
           |false=>
            cases z3:((x.segs.length:Int)==0)with
            |false=>
             have E:Hid (fb=false):=zzH (by rw [HF3.out,z0,z3];simp only [zzX3]);exact zz192
            |true=>
             cases g with
             |true=>
              have E:Hid (fb=true):=zzH (by rw [HF3.out,z0,z3];simp only [zzX2]);exact zz192
             |false=>
              cases z4:(x.to==0)with
              |false=>
               have E:Hid (fb=false):=zzH (by rw [HF3.out,z0,z3,z4];simp only [zzX3]);exact zz192
              |true=>
               have E:Hid (fb=true):=zzH (by rw [HF3.out,z0,z3,z4];simp only [zzX2]);exact zz192
          |false=>
           cases z2:((x.cases.length:Int)==0)with
           |false=>
            have E:Hid (fb=false):=zzH (by rw [HF3.out,z0,z2];simp only [zzX3]);exact zz192
           |true=>
            cases f with
            |true=>
             cases g with
             |true=>
              have E:Hid (fb=true):=zzH (by rw [HF3.out,z0,z2];simp only [zzX2]);exact zz192
             |false=>
              cases z4:(x.to==0)with
              |false=>
               have E:Hid (fb=false):=zzH (by rw [HF3.out,z0,z2,z4];simp only [zzX3]);exact zz192
              |true=>
               have E:Hid (fb=true):=zzH (by rw [HF3.out,z0,z2,z4];simp only [zzX2]);exact zz192
            |false=>
             cases z3:((x.segs.length:Int)==0)with
             |false=>
              have E:Hid (fb=false):=zzH (by rw [HF3.out,z0,z2,z3];simp only [zzX3]);exact zz192
             |true=>
              cases g with
              |true=>
               have E:Hid (fb=true):=zzH (by rw [HF3.out,z0,z2,z3];simp only [zzX2]);exact zz192
              |false=>
               cases z4:(x.to==0)with
               |false=>
                have E:Hid (fb=false):=zzH (by rw [HF3.out,z0,z2,z3,z4];simp only [zzX3]);exact zz192
               |true=>
                have E:Hid (fb=true):=zzH (by rw [HF3.out,z0,z2,z3,z4];simp only [zzX2]);exact zz192
         |false=>
          cases z1:x.name.toList.isEmpty with
          |false=>
           have z1':(x.name.toList== [])=false:=by rw [<-z1];cases x.name.toList<;>rfl
           have E:Hid (fb=false):=zzH (by rw [HF3.out,z0,z1];simp only [zzX3]);exact zz192
          |true=>
           have z1':(x.name.toList== [])=true:=by rw [<-z1];cases x.name.toList<;>rfl
           cases e with
           |true=>
            cases f with
            |true=>
             cases g with
             |true=>
              have E:Hid (fb=true):=zzH (by rw [HF3.out,z0,z1];simp only [zzX2]);exact zz192
             |false=>
              cases z4:(x.to==0)with
              |false=>
               have E:Hid (fb=false):=zzH (by rw [HF3.out,z0,z1,z4];simp only [zzX3]);exact zz192
              |true=>
               have E:Hid (fb=true):=zzH (by rw [HF3.out,z0,z1,z4];simp only [zzX2]);exact zz192
            |false=>
             cases z3:((x.segs.length:Int)==0)with
             |false=>
              have E:Hid (fb=false):=zzH (by rw [HF3.out,z0,z1,z3];simp only [zzX3]);exact zz192
             |true=>
              cases g with
              |true=>
               have E:Hid (fb=true):=zzH (by rw [HF3.out,z0,z1,z3];simp only [zzX2]);exact zz192
              |false=>
               cases z4:(x.to==0)with
               |false=>
                have E:Hid (fb=false):=zzH (by rw [HF3.out,z0,z1,z3,z4];simp only [zzX3]);exact zz192
               |true=>
                have E:Hid (fb=true):=zzH (by rw [HF3.out,z0,z1,z3,z4];simp only [zzX2]);exact zz192
           |false=>
            cases z2:((x.cases.length:Int)==0)with
            |false=>
             have E:Hid (fb=false):=zzH (by rw [HF3.out,z0,z1,z2];simp only [zzX3]);exact zz192
            |true=>
             cases f with
             |true=>
              cases g with
              |true=>
               have E:Hid (fb=true):=zzH (by rw [HF3.out,z0,z1,z2];simp only [zzX2]);exact zz192
              |false=>
               cases z4:(x.to==0)with
               |false=>
                have E:Hid (fb=false):=zzH (by rw [HF3.out,z0,z1,z2,z4];simp only [zzX3]);exact zz192
               |true=>
                have E:Hid (fb=true):=zzH (by rw [HF3.out,z0,z1,z2,z4];simp only [zzX2]);exact zz192
             |false=>
              cases z3:((x.segs.length:Int)==0)with
              |false=>
               have E:Hid (fb=false):=zzH (by rw [HF3.out,z0,z1,z2,z3];simp only [zzX3]);exact zz192
              |true=>
               cases g with
               |true=>
                have E:Hid (fb=true):=zzH (by rw [HF3.out,z0,z1,z2,z3];simp only [zzX2]);exact zz192
               |false=>
                cases z4:(x.to==0)with
                |false=>
                 have E:Hid (fb=false):=zzH (by rw [HF3.out,z0,z1,z2,z3,z4];simp only [zzX3]);exact zz192
                |true=>
                 have E:Hid (fb=true):=zzH (by rw [HF3.out,z0,z1,z2,z3,z4];simp only [zzX2]);exact zz192
end Go.Proofs.YtlaabicdhkebbaaGreatDoor
