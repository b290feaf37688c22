/- the law: for every input it returns true; no condition but that the inputs can be read -/
import Derived.Test.YtijekmeocadkeaaGreatDoorCards
import Derived.Test.YtijekmeocadkeaaGreatDoorTie
import Derived.Test.YtijekmeocadkeaaGreatDoorW20
import Derived.Test.YtijekmeocadkeaaGreatDoorW21
namespace Go.Proofs.YtijekmeocadkeaaGreatDoor
open Go.RowKit
set_option linter.unusedVariables false
set_option linter.unusedSimpArgs false
set_option maxRecDepth 100000
set_option maxHeartbeats 0
def UnitIn (w:World) (P:Nat->Prop) (u:RUnit) (lo fo go co:Option Addr):Prop:=UnitOk u/\SlIn w P 9 (Way.tm.on w P) lo u.lits/\SlIn w P 4 zd0 fo u.funcs/\SlIn w P 3 zbA go u.funs/\SlIn w P 10 (Way.ins.on w P) co u.code
theorem UnitIn.kept {w w':World} {P P':Nat->Prop} {u:RUnit} {lo fo go co:zzA} (h:UnitIn w P u lo fo go co) (hs:w.heap.size<=w'.heap.size) (hk: ∀b,P b->b<w.heap.size->w'.heap[b]?=w.heap[b]?) (hP: ∀b,P b->b<w.heap.size->P' b):UnitIn w' P' u lo fo go co:=
 ⟨h.1,h.2.1.onKeep hs hk hP,h.2.2.1.kept hs hk hP (fun _ _ h=>h),h.2.2.2.1.kept hs hk hP (fun _ _ h=>h),h.2.2.2.2.onKeep hs hk hP⟩
def zj7 (s:ByteArray) (w:World) (e:Ending) (w':World):Prop:=
 (match zdy s.data.toList with
 |none=>e= .returned (.tuple #[.agg zf5,.int .i64 6])
 |some u=> ∃lo lc fo fc go gc co cc,e= .returned (.tuple #[.agg #[.string u.mdl,.int .i64 u.vsn,.slice lo u.lits.length lc,.slice fo u.funcs.length fc,.slice go u.funs.length gc,.slice co u.code.length cc],.int .i64 0])/\UnitIn w' (fun b=>w.heap.size+3<=b) u lo fo go co)/\Below w.heap.size w w'
theorem zeb {fn:Func} {p u:Tmp} {ty t2:TypeId} (h:fn.results=#[.cell p ty,.cell u t2]) (tmps:Array Value) (P:Program) (w:World) (X:Nat) (cs:Array Value) (e:Value) (fs:Array Field)
  (hp:tmps.getD p undef= .pointer (some ⟨X,0,none⟩)) (hu:tmps.getD u undef= .pointer (some ⟨X+1,0,none⟩)) (ho:Out2 X w cs e)
  (hty:P.underlying ty=some (.struct fs)) (hi:(P.info? ty).map (·.size)=some cs.size) (h2:(loadVar t2 ⟨X+1,0,none⟩).run P w= .ok e w):
  (results fn tmps).run P w= .ok (.tuple #[.agg cs,e]) w:=by
 have hl:=run_loadVar_row w X 27 ty cs (0,0) (.struct fs) ho.x hty rfl hi;have hp':tmps[p]?.getD undef= .pointer (some ⟨X,0,none⟩):=by simpa using hp
 have hu':tmps[u]?.getD undef= .pointer (some ⟨X+1,0,none⟩):=by simpa using hu
 simp [results,h,hp',hu',asAddr,hl,h2]
theorem zg6 (w:World) (o0 o1 o2:Obj):(((w.alloc o0).alloc o1).alloc o2).heap[w.heap.size]?=some o0/\(((w.alloc o0).alloc o1).alloc o2).heap[w.heap.size+1]?=some o1/\(((w.alloc o0).alloc o1).alloc o2).heap[w.heap.size+2]?=some o2:=by
 have n0:=zzF w o0;have n1:=zzF (w.alloc o0) o1;have n2:=zzF ((w.alloc o0).alloc o1) o2;rw [show(w.alloc o0).heap.size=w.heap.size+1 by simp]at n1;rw [show((w.alloc o0).alloc o1).heap.size=w.heap.size+2 by simp]at n2;refine⟨?_,?_,n2⟩
 ·rw [Below.heap_alloc _ _ _ (by simp;omega),Below.heap_alloc _ _ _ (by simp)];exact n0
 ·rw [Below.heap_alloc _ _ _ (by simp)];exact n1
structure GSt (w0:World) (X:Nat) (l:List UInt8) (m:ByteArray) (v:Int) (a:List Tm) (b:List RFunc) (c:List RFun) (d:List RIns) (wx:World):Prop where
 rd:RdC (X+2) l wx
 bel:Below X w0 wx
 y: ∃lo lc fo fc go gc co cc,Out2 X wx #[.string m,.int .i64 v,.slice lo a.length lc,.slice fo b.length fc,.slice go c.length gc,.slice co d.length cc] (.int .i64 0)/\SlIn wx (X+3<= ·) 9 (Way.tm.on wx (X+3<= ·)) lo a/\SlIn wx (X+3<= ·) 4 zd0 fo b/\SlIn wx (X+3<= ·) 3 zbA go c/\SlIn wx (X+3<= ·) 10 (Way.ins.on wx (X+3<= ·)) co d
theorem GSt.lt {w0:World} {X:Nat} {l:List UInt8} {m:ByteArray} {v:Int} {a:List Tm} {b:List RFunc} {c:List RFun} {d:List RIns} {wx:World} (S:GSt w0 X l m v a b c d wx):X+2<wx.heap.size:=S.rd.lt
theorem GSt.call {w0:World} {X:Nat} {l:List UInt8} {m:ByteArray} {v:Int} {a:List Tm} {b:List RFunc} {c:List RFun} {d:List RIns} {wx wy:World} (S:GSt w0 X l m v a b c d wx) {l':List UInt8} (hr:RdC (X+2) l' wy) (hg:wx.grownBy wy (some (X+2))):GSt w0 X l' m v a b c d wy:=by
 obtain⟨lo,lc,fo,fc,go,gc,co,cc,ho,s1,s2,s3,s4⟩:=S.y;have hlt:=S.lt;have hk: ∀b,X+3<=b->b<wx.heap.size->wy.heap[b]?=wx.heap[b]?:=fun b hb hl=>hg.block b hl fun e=>by have:=zzf e;omega
 exact⟨hr,zcR S.bel hg (by omega) (by omega),lo,lc,fo,fc,go,gc,co,cc,ho.grown hg,s1.onKeep hg.size hk (fun b h _=>h),s2.kept hg.size hk (fun b h _=>h) (fun _ _ h=>h),s3.kept hg.size hk (fun b h _=>h) (fun _ _ h=>h),s4.onKeep hg.size hk (fun b h _=>h)⟩
theorem GSt.put {w0:World} {X:Nat} {l:List UInt8} {m:ByteArray} {v:Int} {a:List Tm} {b:List RFunc} {c:List RFun} {d:List RIns} {wx wy:World} (S:GSt w0 X l m v a b c d wx) (hof:OffB X wx wy) (hbl:Below X wx wy) {m':ByteArray} {v':Int} {a':List Tm} {b':List RFunc} {c':List RFun} {d':List RIns}
  {lo:zzA} {lc:Nat} {fo:zzA} {fc:Nat} {go:zzA} {gc:Nat} {co:zzA} {cc:Nat} (hx:wy.heap[X]?=some (.cells #[.string m',.int .i64 v',.slice lo a'.length lc,.slice fo b'.length fc,.slice go c'.length gc,.slice co d'.length cc] 27 (0,0))) (he:wx.heap[X+1]?=some (.cells #[.int .i64 0] 37 (0,0)))
  (s1:SlIn wx (X+3<= ·) 9 (Way.tm.on wx (X+3<= ·)) lo a') (s2:SlIn wx (X+3<= ·) 4 zd0 fo b') (s3:SlIn wx (X+3<= ·) 3 zbA go c') (s4:SlIn wx (X+3<= ·) 10 (Way.ins.on wx (X+3<= ·)) co d'):GSt w0 X l m' v' a' b' c' d' wy:=by
 have hk: ∀b,X+3<=b->b<wx.heap.size->wy.heap[b]?=wx.heap[b]?:=fun b hb hl=>hof.2 b (by omega)
 exact⟨S.rd.off hof (by omega),S.bel.trans hbl,lo,lc,fo,fc,go,gc,co,cc,⟨hx,(hof.2 _ (by omega)).trans he⟩,s1.onKeep hof.1 hk (fun b h _=>h),s2.kept hof.1 hk (fun b h _=>h) (fun _ _ h=>h),s3.kept hof.1 hk (fun b h _=>h) (fun _ _ h=>h),s4.onKeep hof.1 hk (fun b h _=>h)⟩
theorem zs3 (X:Nat) (w:World) (v0 v1 v2 v3 v4 v5 e:Value):(∀b,X+3<=b->(((((((w.setCell ⟨X,0,none⟩ v0).setCell ⟨X,1,none⟩ v1).setCell ⟨X,2,none⟩ v2).setCell ⟨X,3,none⟩ v3).setCell ⟨X,4,none⟩ v4).setCell ⟨X,5,none⟩ v5).setCell ⟨X+1,0,none⟩ e).heap[b]?=w.heap[b]?)/\w.heap.size<=(((((((w.setCell ⟨X,0,none⟩ v0).setCell ⟨X,1,none⟩ v1).setCell ⟨X,2,none⟩ v2).setCell ⟨X,3,none⟩ v3).setCell ⟨X,4,none⟩ v4).setCell ⟨X,5,none⟩ v5).setCell ⟨X+1,0,none⟩ e).heap.size:=
 ⟨fun b hb=>((OffB.set (X+1) _ 0 e).2 b (by omega)).trans ((OffB.six X w v0 v1 v2 v3 v4 v5).2 b (by omega)),zzY (OffB.six X w v0 v1 v2 v3 v4 v5).1 (OffB.set (X+1) _ 0 e).1⟩
theorem zo5 (f:Nat) (u:RUnit):zZ f u=0\/zZ f u=6:=by
 unfold zZ;split
 ·split
  ·exact .inr rfl
  ·exact .inl rfl
 ·exact .inr rfl
theorem zr3 {w:World} {P:Nat->Prop} {u:RUnit} {lo fo go co:zzA} (ho:UnitOk u) (s1:SlIn w P 9 (Way.tm.on w P) lo u.lits) (s2:SlIn w P 4 zd0 fo u.funcs) (s3:SlIn w P 3 zbA go u.funs) (s4:SlIn w P 10 (Way.ins.on w P) co u.code):
  UP w u lo fo go co/\SlAt w 9 (TmAt w 2000) lo u.lits:=by
 have h1:SlAt w 9 (TmAt w 2000) lo u.lits:=s1.at fun j hj cs hx=>TmIn.ok hx (ho.lits _ (zzM hj)).2
 have l1:=ho.litsL;have l2:=ho.funcsL;have l3:=ho.funsL;have l4:=ho.codeL;have l5:=ho.mdl;exact⟨⟨h1.imp fun _ _ h=>⟨2000,h⟩,s2.at fun _ _ _ h=>h,s3.at fun _ _ _ h=>h,s4.at fun j hj cs hx=>InsIn.ok hx (ho.code _ (zzM hj)),by omega,ho.vsn,by omega,by omega,by omega,by omega⟩,h1⟩
theorem zpX (s:ByteArray) (w:World) (hs:s.size<=68719476736) (hrows:RowsAt w) (hsp:SpaceAt w):Calls Tryz.prog 19 #[.string s] w (zj7 s w):=by
 have hmf: ∀(fn:Fn) (first cap:Array Value) (w:World),(Instr.makeFunc fn first cap).run Tryz.prog w= .ok (.func fn first cap) w:=fun _ _ _ _=>rfl
 generalize hQ:zj7 s w=Q at *;have HQ:=zzH hQ;clear hQ;have HU:Hid (zdy s.data.toList=(zgF s.data.toList).bind fun x=>if x.2= []/\zZ 2000 x.1=0 then some x.1 else none):=zzH rfl;have HD:Hid (zgF s.data.toList=(zcw s.data.toList).bind fun m=>(zbs m.2).bind fun v=>(zV zdh v.2).bind fun a=>(zV zcD a.2).bind fun b=>(zV fnD b.2).bind fun c=>(zV zcr c.2).bind fun d=>some (⟨m.1,v.1,a.1,b.1,c.1,d.1⟩,d.2)):=zzH rfl;have HRW:=zzH hrows;have HSP:=zzH hsp;clear hrows hsp;go_enter_defers Tryz.func19,Tryz.ntmps19;go_upto_region 3 with fail;simp only [Nat.add_assoc,Nat.reduceAdd]
 have hO:Out2 w.heap.size (((w.alloc (.cells zf5 27)).alloc (.cells #[.int .i64 0] 37)).alloc (.cells #[.string s] 107)) zf5 (.int .i64 0):=by
  obtain⟨h0,h1,-⟩:=zg6 w (.cells zf5 27) (.cells #[.int .i64 0] 37) (.cells #[.string s] 107);exact⟨h0,h1⟩
 have hR:RdC (w.heap.size+2) s.data.toList (((w.alloc (.cells zf5 27)).alloc (.cells #[.int .i64 0] 37)).alloc (.cells #[.string s] 107)):=⟨s,(zg6 w _ _ _).2.2,rfl,hs⟩;have hB:Below w.heap.size w (((w.alloc (.cells zf5 27)).alloc (.cells #[.int .i64 0] 37)).alloc (.cells #[.string s] 107)):=((zzE _ _).alloc (by simp) _).alloc (by simp;omega) _;unfold zf5 at hO hR hB;generalize World.alloc _ _=w3 at *;have HRW3:Hid (w.heap.size<=w3.heap.size):=zzH hB.size;generalize hXX:w.heap.size=X at *;have HX:=zzH hXX;clear hXX;have hX:=hR.lt;have H1:=zf4 (X+2) s.data.toList w3 hR;rcases h1:zcw s.data.toList with _|⟨m,l1⟩
 ·rw [h1]at H1 HD
  have HN:Hid (zdy s.data.toList=none):=zzH (by rw [HU.out,HD.out];rfl);go_wp2_with (go_at_call 52;refine H1.mono ?_;rintro e v1 ⟨rfl,hg1⟩);refine leaves_cons (f:=51) (args:=#[.pointer (some ⟨X,0,none⟩),.pointer (some ⟨X+1,0,none⟩)]) (by simp) (by simp [go_sem]) ?_;refine(zha X _ _ _ _ _ _ _ [] _ (hO.grown hg1)).mono ?_;rintro e u' w'' ⟨rfl,rfl,hO9,hB9⟩;simp only [settle,List.dropWhile_nil];refine⟨_,zeb rfl _ _ _ X _ _ _ rfl rfl hO9 Tryz.underlying27 (by kernel_rfl) (zdp hO9.e),?_⟩;rw [<-HQ.out];refine⟨by rw [HN.out],?_⟩;rw [HX.out];exact Below.trans (zcR hB hg1 (by omega) (by omega)) hB9
 rw [h1]at H1 HD;rw [zzq0]at HD;go_wp2_with (go_at_call 52;refine H1.mono ?_;rintro e v1 ⟨rfl,hr1,hg1⟩;have hO1:=hO.grown hg1;have hB1:=zcR hB hg1 (by omega) (by omega);clear hO hB hR H1 hX);have hX:=hr1.lt;have H2:=zby (X+2) l1 v1 hr1;rcases h2:vD l1 with _|⟨n,l2⟩
 ·rw [h2]at H2
  rw [show zbs l1=(vD l1).bind fun x=>some ((x.1:Int),x.2)from rfl,h2]at HD;have HN:Hid (zdy s.data.toList=none):=zzH (by rw [HU.out,HD.out];rfl);go_wp2_with (go_at_call 53;refine H2.mono ?_;rintro e v2 ⟨rfl,hg2⟩);refine leaves_cons (f:=51) (args:=#[.pointer (some ⟨X,0,none⟩),.pointer (some ⟨X+1,0,none⟩)]) (by simp) (by simp [go_sem]) ?_;refine(zha X _ _ _ _ _ _ _ [] _ (hO1.grown hg2)).mono ?_;rintro e u' w'' ⟨rfl,rfl,hO9,hB9⟩;simp only [settle,List.dropWhile_nil];refine⟨_,zeb rfl _ _ _ X _ _ _ rfl rfl hO9 Tryz.underlying27 (by kernel_rfl) (zdp hO9.e),?_⟩;rw [<-HQ.out];refine⟨by rw [HN.out],?_⟩;rw [HX.out];exact Below.trans (zcR hB1 hg2 (by omega) (by omega)) hB9
 rw [h2]at H2;rw [show zbs l1=(vD l1).bind fun x=>some ((x.1:Int),x.2)from rfl,h2]at HD;rw [zzq0,zzq0]at HD;have hn:=(zcF h2).1;have hw64:IntKind.i64.wrap (n:Int)=(n:Int):=by rw [zzq5];omega
 go_upto_region 4 with(go_at_call 53;refine H2.mono ?_;rintro e v2 ⟨rfl,hr2,hg2⟩;have hO2:=hO1.grown hg2;have hB2:=zcR hB1 hg2 (by omega) (by omega);clear hO1 hB1 hr1 H2 hg1 hX;obtain⟨c0,c1,c2,c3,c4,c5,d0,d1,d2,d3,d4,d5⟩:=zdt hO2.x);clear c0 c1 c2 c3 c4 c5 d0 d1 d2 d3 d4 d5;have S0:GSt w X l2 ⟨#[]⟩ 0 [] [] [] [] v2:=⟨hr2,hB2,none,0,none,0,none,0,none,0,hO2,.inl rfl,.inl rfl,.inl rfl,.inl rfl⟩;have S:=S0.put (m':=m) (v':=(n:Int)) (a':=[]) (b':=[]) (c':=[]) (d':=[]) (lo:=none) (lc:=0) (fo:=none) (fc:=0) (go:=none) (gc:=0) (co:=none) (cc:=0) (OffB.six X v2 (.string m) (.int .i64 (n:Int)) (.slice none 0 0) (.slice none 0 0) (.slice none 0 0) (.slice none 0 0)) (ziM (zzR _ _) (.string m) (.int .i64 (n:Int)) (.slice none 0 0) (.slice none 0 0) (.slice none 0 0) (.slice none 0 0)) (ztL (.string m) (.int .i64 (n:Int)) (.slice none 0 0) (.slice none 0 0) (.slice none 0 0) (.slice none 0 0) hO2.x) hO2.e (.inl rfl) (.inl rfl) (.inl rfl) (.inl rfl);clear S0 hr2 hB2 hO2 hg2 hw64;generalize World.setCell _ _ _=w4 at *;generalize hv:(n:Int)=v at *;have HL:=zzH S;clear S;have S:=HL.out;clear HL;have hX:=S.lt;have H:=zkd (X+2) l2 _ (fun l wx h=>zrM (X+2) l wx h) zsQ S.rd;rcases h3:zV zdh l2 with _|⟨a,l3⟩
 ·rw [h3]at H HD
  have HN:Hid (zdy s.data.toList=none):=zzH (by rw [HU.out,HD.out];rfl);obtain⟨lo,lc,fo,fc,go,gc,co,cc,hO,-⟩:=S.y;go_wp2_with (go_at_call 54;refine H.mono ?_;rintro e v5 ⟨rfl,hg5⟩);exact zz129
 rw [h3]at H HD;rw [zzq0]at HD;have hX3:X+3<=w4.heap.size:=hX;go_upto_region 5 with(go_at_call 54;refine H.mono ?_;rintro e v5 ⟨⟨so2,c2,rfl,hsl⟩,hr5,hg5⟩;have S2:=S.call hr5 hg5;clear S;obtain⟨lo,lc,fo,fc,go,gc,co,cc,hO,s1,s2,s3,s4⟩:=S2.y;obtain⟨q0,q1,q2,q3,q4,q5,z0,z1,z2,z3,z4,z5⟩:=zdt hO.x);clear q0 q1 q2 q3 q4 q5 z0 z1 z2 z3 z4 z5;have S3:=S2.put (OffB.set X _ 2 _) ((zzR _ _).setCell (p:=⟨X,2,none⟩) (zzL _) _) (zzS _ _ 2 _ _ (.slice so2 a.length c2) hO.x) hO.e (hsl.onKeep (zzL _) (fun _ _ _=>rfl) (fun b hb _=>zzY hX3 hb)) s2 s3 s4;have HL:Hid (GSt w X l3 m v a [] [] [] _):=zzH S3;clear S2 S3 hO s1 s2 s3 s4 hr5 hg5 hsl H hX hX3 h3;generalize World.setCell _ _ _=w5 at *;have S:=HL.out;clear HL;have hX:=S.lt;have H:=zj0 (X+2) l3 _ (fun l wx h=>zpD (X+2) l wx h) zq6 S.rd;rcases h3:zV zcD l3 with _|⟨b,l4⟩
 ·rw [h3]at H HD
  have HN:Hid (zdy s.data.toList=none):=zzH (by rw [HU.out,HD.out];rfl);obtain⟨lo,lc,fo,fc,go,gc,co,cc,hO,-⟩:=S.y;go_wp2_with (go_at_call 56;refine H.mono ?_;rintro e v5 ⟨rfl,hg5⟩);exact zz129
 rw [h3]at H HD;rw [zzq0]at HD;have hX3:X+3<=w5.heap.size:=hX;go_upto_region 6 with(go_at_call 56;refine H.mono ?_;rintro e v5 ⟨⟨so2,c2,rfl,hsl⟩,hr5,hg5⟩;have S2:=S.call hr5 hg5;clear S;obtain⟨lo,lc,fo,fc,go,gc,co,cc,hO,s1,s2,s3,s4⟩:=S2.y;obtain⟨q0,q1,q2,q3,q4,q5,z0,z1,z2,z3,z4,z5⟩:=zdt hO.x);clear q0 q1 q2 q3 q4 q5 z0 z1 z2 z3 z4 z5;have S3:=S2.put (OffB.set X _ 3 _) ((zzR _ _).setCell (p:=⟨X,3,none⟩) (zzL _) _) (zzS _ _ 3 _ _ (.slice so2 b.length c2) hO.x) hO.e s1 (hsl.kept (zzL _) (fun _ _ _=>rfl) (fun b hb _=>zzY hX3 hb) (fun _ _ h=>h)) s3 s4;have HL:Hid (GSt w X l4 m v a b [] [] _):=zzH S3;clear S2 S3 hO s1 s2 s3 s4 hr5 hg5 hsl H hX hX3 h3;generalize World.setCell _ _ _=w6 at *;have S:=HL.out;clear HL;have hX:=S.lt;have H:=zkW (X+2) l4 _ (fun l wx h=>zqH (X+2) l wx h) zuj S.rd;rcases h3:zV fnD l4 with _|⟨c,l5⟩
 ·rw [h3]at H HD
  have HN:Hid (zdy s.data.toList=none):=zzH (by rw [HU.out,HD.out];rfl);obtain⟨lo,lc,fo,fc,go,gc,co,cc,hO,-⟩:=S.y;go_wp2_with (go_at_call 58;refine H.mono ?_;rintro e v5 ⟨rfl,hg5⟩);exact zz129
 rw [h3]at H HD;rw [zzq0]at HD;have hX3:X+3<=w6.heap.size:=hX;go_upto_region 7 with(go_at_call 58;refine H.mono ?_;rintro e v5 ⟨⟨so2,c2,rfl,hsl⟩,hr5,hg5⟩;have S2:=S.call hr5 hg5;clear S;obtain⟨lo,lc,fo,fc,go,gc,co,cc,hO,s1,s2,s3,s4⟩:=S2.y;obtain⟨q0,q1,q2,q3,q4,q5,z0,z1,z2,z3,z4,z5⟩:=zdt hO.x);clear q0 q1 q2 q3 q4 q5 z0 z1 z2 z3 z4 z5;have S3:=S2.put (OffB.set X _ 4 _) ((zzR _ _).setCell (p:=⟨X,4,none⟩) (zzL _) _) (zzS _ _ 4 _ _ (.slice so2 c.length c2) hO.x) hO.e s1 s2 (hsl.kept (zzL _) (fun _ _ _=>rfl) (fun b hb _=>zzY hX3 hb) (fun _ _ h=>h)) s4;have HL:Hid (GSt w X l5 m v a b c [] _):=zzH S3;clear S2 S3 hO s1 s2 s3 s4 hr5 hg5 hsl H hX hX3 h3;generalize World.setCell _ _ _=w7 at *;have S:=HL.out;clear HL;have hX:=S.lt;have H:=zkr (X+2) l5 _ (HRW.out.below (by rw [HX.out];exact S.bel)) (fun l wx hw h=>zro (X+2) l wx hw h) zsi S.rd;rcases h3:zV zcr l5 with _|⟨d,l6⟩
 ·rw [h3]at H HD
  have HN:Hid (zdy s.data.toList=none):=zzH (by rw [HU.out,HD.out];rfl);obtain⟨lo,lc,fo,fc,go,gc,co,cc,hO,-⟩:=S.y;go_wp2_with (go_at_call 60;refine H.mono ?_;rintro e v5 ⟨rfl,hg5⟩);exact zz129
 rw [h3]at H HD;rw [zzq0]at HD;have hX3:X+3<=w7.heap.size:=hX;go_upto_region 8 with(go_at_call 60;refine H.mono ?_;rintro e v5 ⟨⟨so2,c2,rfl,hsl⟩,hr5,hg5⟩;have S2:=S.call hr5 hg5;clear S;obtain⟨lo,lc,fo,fc,go,gc,co,cc,hO,s1,s2,s3,s4⟩:=S2.y;obtain⟨q0,q1,q2,q3,q4,q5,z0,z1,z2,z3,z4,z5⟩:=zdt hO.x);clear q0 q1 q2 q3 q4 q5 z0 z1 z2 z3 z4 z5;have S3:=S2.put (OffB.set X _ 5 _) ((zzR _ _).setCell (p:=⟨X,5,none⟩) (zzL _) _) (zzS _ _ 5 _ _ (.slice so2 d.length c2) hO.x) hO.e s1 s2 s3 (hsl.onKeep (zzL _) (fun _ _ _=>rfl) (fun b hb _=>zzY hX3 hb));have HL:Hid (GSt w X l6 m v a b c d _):=zzH S3;clear S2 S3 hO s1 s2 s3 s4 hr5 hg5 hsl H hX hX3 h3;generalize World.setCell _ _ _=w8 at *;have S:=HL.out;clear HL;obtain⟨lo,lc,fo,fc,go,gc,co,cc,hO,s1,s2,s3,s4⟩:=S.y;have hok:=(zoy HD.out).2;have hup:=zr3 hok s1 s2 s3 s4
 have hcap: ∀t∈a,(zG 2000 t:Int)<=1152921504606846976:=fun t ht=>by
  have h1:=hok.lits t ht;have h2:=zhc 2000 t h1.2;have h3:=h1.1;unfold zA at h3;rw [zzq6,zzq7]at h3;have h4:=zfp 2000 t h3.1;omega
 have hck:=zhq 1999 ⟨m,v,a,b,c,d⟩ lo fo go co lc fc gc cc w8 (HRW.out.below (by rw [HX.out];exact S.bel)) (HSP.out.below (by rw [HX.out];exact S.bel)) hup.1 hup.2 hcap (fun x hx=>by have:=(hok.code x hx).name;omega);have HSS:=zzH (And.intro s1 (And.intro s2 (And.intro s3 (And.intro s4 hok))));have hee:=zo5 2000 ⟨m,v,a,b,c,d⟩;have HEE:Hid (zdy s.data.toList=if l6= []/\zZ 2000 ⟨m,v,a,b,c,d⟩=0 then some ⟨m,v,a,b,c,d⟩else none):=zzH (by rw [HU.out,HD.out];rfl);clear hok hup hcap s1 s2 s3 s4;generalize zb6 (1999+1) ⟨m,v,a,b,c,d⟩=ci at *;rw [show zZ (1999+1) ⟨m,v,a,b,c,d⟩=zZ 2000 ⟨m,v,a,b,c,d⟩from rfl]at hck;generalize zZ 2000 ⟨m,v,a,b,c,d⟩=ce at *;obtain⟨q0,q1,q2,q3,q4,q5,z0,z1,z2,z3,z4,z5⟩:=zdt hO.x;go_upto_region 9 with(go_at_call 32;refine hck.mono ?_;rintro e w9 ⟨rfl,hb9⟩);obtain⟨s6,hr6,hl6,hs6⟩:=S.rd.below hb9;have hO9:=hO.below hb9;have hB9:Below X w w9:=S.bel.trans (hb9.mono (by have:=S.lt;omega));have hle9:=hb9.size;have HBL:=zzH hb9;have hX8:=S.lt;clear q0 q1 q2 q3 q4 q5 z0 z1 z2 z3 z4 z5 hO S hb9 hck;obtain⟨r0,g0⟩:=RdC.cells hr6;obtain⟨q0,q1,q2,q3,q4,q5,z0,z1,z2,z3,z4,z5⟩:=zdt hO9.x;have k1:w9.cell? ⟨X+1,0,none⟩=some (.int .i64 0):=zzq2 w9 _ 0 _ _ _ hO9.e;have f1:w9.frozen? ⟨X+1,0,none⟩=false:=zzq17 w9 _ 0 _ _ hO9.e;clear hr6;by_cases c6:l6= []
 case neg=>
  have HN:Hid (zdy s.data.toList=none):=zzH (by rw [HEE.out];exact if_neg fun h=>c6 h.1);have hne: ¬s6.toList= []:=by rw [zzq14,hl6];exact c6
  have hne3:s6.toList.isEmpty=false:=by cases h:s6.toList with|nil=>exact absurd h hne|cons=>rfl
  clear HEE c6 hl6 hee;exact zz128
 subst c6;have h0:s6=⟨#[]⟩:=ByteArray.ext (Array.ext' hl6);subst h0;by_cases ce0:ce=0
 case neg=>
  have HN:Hid (zdy s.data.toList=none):=zzH (by rw [HEE.out];exact if_neg fun h=>ce0 h.2);have ce6:=hee.resolve_left ce0;subst ce6;clear HEE hl6 hee ce0;exact zz128
 subst ce0;have HY:Hid (zdy s.data.toList=some ⟨m,v,a,b,c,d⟩):=zzH (by rw [HEE.out];exact if_pos ⟨rfl,rfl⟩);clear HEE hl6 hee;have hO10:=hO9.six (.string m) (.int .i64 v) (.slice lo a.length lc) (.slice fo b.length fc) (.slice go c.length gc) (.slice co d.length cc) (.int .i64 0);have hB10:Below X w _:=(ziM hB9 (.string m) (.int .i64 v) (.slice lo a.length lc) (.slice fo b.length fc) (.slice go c.length gc) (.slice co d.length cc)).setCell (p:=⟨X+1,0,none⟩) (show X<=X+1 by omega) (.int .i64 0);have HF:=zzH (zs3 X w9 (.string m) (.int .i64 v) (.slice lo a.length lc) (.slice fo b.length fc) (.slice go c.length gc) (.slice co d.length cc) (.int .i64 0));go_wp2_with fail;clear q0 q1 q2 q3 q4 q5 z0 z1 z2 z3 z4 z5 k1 f1 hO9 hB9;generalize World.setCell _ ⟨X+1,0,none⟩ _=w10 at *;obtain⟨s1,s2,s3,s4,hok⟩:=HSS.out;have hk: ∀b,X+3<=b->b<w8.heap.size->w10.heap[b]?=w8.heap[b]?:=fun b hb hl=>(HF.out.1 b hb).trans (HBL.out.block b hl)
 have hz:w8.heap.size<=w10.heap.size:=zzY hle9 HF.out.2;have hup:UnitIn w10 (fun b=>X+3<=b) ⟨m,v,a,b,c,d⟩ lo fo go co:=⟨hok,s1.onKeep hz hk (fun b h _=>h),s2.kept hz hk (fun b h _=>h) (fun _ _ h=>h),s3.kept hz hk (fun b h _=>h) (fun _ _ h=>h),s4.onKeep hz hk (fun b h _=>h)⟩;refine leaves_cons (f:=51) (args:=#[.pointer (some ⟨X,0,none⟩),.pointer (some ⟨X+1,0,none⟩)]) (by simp) (by simp [go_sem]) ?_;refine(zkN _ _ _).mono ?_;rintro e u' w'' ⟨rfl,rfl,rfl⟩;simp only [settle];refine⟨_,zeb rfl _ _ _ X _ _ _ rfl rfl hO10 Tryz.underlying27 (by kernel_rfl) (zdp hO10.e),?_⟩;rw [<-HQ.out];refine⟨?_,by rw [HX.out];exact hB10⟩;rw [HY.out];exact⟨lo,lc,fo,fc,go,gc,co,cc,rfl,by rw [HX.out];exact hup⟩
theorem UnitIn.up {w:World} {P:Nat->Prop} {u:RUnit} {lo fo go co:zzA} (h:UnitIn w P u lo fo go co):UP w u lo fo go co/\SlAt w 9 (TmAt w 2000) lo u.lits:=zr3 h.1 h.2.1 h.2.2.1 h.2.2.2.1 h.2.2.2.2
open Go.RowKit Go.Shelf Go.Lib
def zkC (u:RUnit) (w:World) (e:Ending) (w':World):Prop:=
 (∃lo lc fo fc go gc co cc,e= .returned (.tuple #[.agg #[.string u.mdl,.int .i64 u.vsn,.slice lo u.lits.length lc,.slice fo u.funcs.length fc,.slice go u.funs.length gc,.slice co u.code.length cc],.int .i64 0])/\UP w' u lo fo go co/\SlAt w' 9 (TmAt w' 2000) lo u.lits)/\Below w.heap.size w w'
theorem zr5 {w:World} {g:Nat} {u:RUnit} {lo fo go co:zzA} {lc fc gc cc:Nat} {T:TypeId} (h:w.heap[g]?=some (.cells #[.string u.mdl,.int .i64 u.vsn,.slice lo u.lits.length lc,.slice fo u.funcs.length fc,.slice go u.funs.length gc,.slice co u.code.length cc] T (0,0))):
  zzrUt w g u lo lc fo fc go gc co cc:=
 ⟨zzq2 _ _ 0 _ _ _ h,zzq2 _ _ 1 _ _ _ h,zzq2 _ _ 2 _ _ _ h,zzq2 _ _ 3 _ _ _ h,zzq2 _ _ 4 _ _ _ h,zzq2 _ _ 5 _ _ _ h⟩
theorem zpL (u:RUnit) (S:ByteArray) (w:World) (hE:zbx (zcU u S)=0) (hg:zdy S.data.toList=some u) (hS:S.size<=68719476736) (hm:u.mdl.size<=1000) (hv:I64 u.vsn) (hrows:RowsAt w) (hsp:SpaceAt w):
  Calls Tryz.prog 8 #[.string ⟨(zbQ (zcU u S)).toArray⟩] w (zkC u w):=by
 obtain⟨g1,g2,g3,g4,g5⟩:=zmq hE;have hge:=fun wx=>zma (zbQ (zcU u S)) wx (by omega)
 rw [g1,g2]at hge;refine zzK3 hge hrows hsp fun HGE HR HS=>?_;have HGT:Hid (∀wx,Below w.heap.size w wx->Calls Tryz.prog 19 #[.string S] wx (zj7 S wx)):=zzH (fun wx hx=>zpX S wx hS (HR.out.below hx) (HS.out.below hx));have HGD:=zzH hg;have HIN:=zzH (fun lo fo go co lc fc gc cc wx=>zlf u lo fo go co lc fc gc cc wx hv hm);clear hge hrows hsp hg g1 g2 g3 g4 g5;generalize(⟨(zbQ (zcU u S)).toArray⟩:ByteArray)=P at *;obtain⟨Q,hQ⟩: ∃Q,Q=zkC u w:=⟨_,rfl⟩;rw [<-hQ];have HQ:=zzH hQ;clear hQ;go_in;go_upto_region 1 with fail;have hz:=zzF w (.cells #[.string ⟨#[]⟩,.int .i64 0,.slice none 0 0,.slice none 0 0,.slice none 0 0,.slice none 0 0] 27);have hba:Below w.heap.size w (w.alloc (.cells #[.string ⟨#[]⟩,.int .i64 0,.slice none 0 0,.slice none 0 0,.slice none 0 0,.slice none 0 0] 27)):=zzE _ _;generalize w.alloc (.cells #[.string ⟨#[]⟩,.int .i64 0,.slice none 0 0,.slice none 0 0,.slice none 0 0,.slice none 0 0] 27)=Wa at *;refine zzK3 hz hba (zc hz) fun HZ HBA HW=>?_;clear hz hba;go_upto_region 2 with(first|(go_at_call 12;refine(HGE.out _).mono ?_;rintro e w1 ⟨v,rfl,hl,hb1⟩)|fail);obtain⟨ao,c,rfl,hls⟩:=zh0 hl;obtain⟨b,off,rfl,hr⟩:=hls.row (k:=0) (show 0<2 by decide);have HB1:=zzH (zd HBA.out hb1);have hb1s:=hb1.size;have HZ1:=zzH ((hb1.block _ HW.out).trans HZ.out);have q0:w1.cell? ⟨b,off,none⟩=some (.string ⟨#[73,110,102,111]⟩):=by have:=(hr.2 0 (show 0<2 by decide)).1;simpa [zcU] using this
 have q1:w1.cell? ⟨b,off+1,none⟩=some (.string (zd1 u)):=by have:=(hr.2 0 (show 0<2 by decide)).2;simpa [zcU] using this
 have q2:w1.cell? ⟨b,off+2,none⟩=some (.string ⟨#[85,110,105,116]⟩):=by have:=(hr.2 1 (show 1<2 by decide)).1;simpa [zcU] using this
 have q3:w1.cell? ⟨b,off+3,none⟩=some (.string S):=by have:=(hr.2 1 (show 1<2 by decide)).2;simpa [zcU] using this
 have HBL:=zzH hr.1;have HQ1:=zzH q1;have hlen:(zcU u S).length=2:=rfl;rw [hlen];clear hl hls hr hb1 hlen HGE;go_upto_region 6 with fail;clear q0 q1 q2;have hG:=HGT.out w1 HB1.out;unfold zj7 at hG;rw [HGD.out]at hG;have HG:=zzH hG;clear hG HGT HGD;go_upto_region 7 with(first|(go_at_call 19;refine HG.out.mono ?_;rintro e w4 ⟨⟨lo',lc',fo',fc',go',gc',co',cc',rfl,hin4⟩,hb4⟩)|fail);have hba:=(zzR w4.heap.size w4).alloc (zzL _) (.cells #[.string u.mdl,.int .i64 u.vsn,.slice lo' u.lits.length lc',.slice fo' u.funcs.length fc',.slice go' u.funs.length gc',.slice co' u.code.length cc'] 27);have hx:=zzF w4 (.cells #[.string u.mdl,.int .i64 u.vsn,.slice lo' u.lits.length lc',.slice fo' u.funcs.length fc',.slice go' u.funs.length gc',.slice co' u.code.length cc'] 27);refine zzK7 (zd HB1.out (hb4.trans (hba.mono hb4.size))) hx (zzW HW.out hb1s) (hin4.kept hba.size (fun b _ h=>hba.block b h) (fun b h _=>h)) (((hb4.trans (hba.mono hb4.size)).block _ (zc HZ1.out)).trans HZ1.out) (((hb4.trans (hba.mono hb4.size)).cell (p:=⟨b,off+1,none⟩) HBL.out).trans HQ1.out) (zzW HBL.out (hb4.trans (hba.mono hb4.size)).size) fun HB4 HX HM HIN4 HZ4 HQ4 HBL4=>?_;clear hba hx hin4 hb4 q3 HG HZ1 HQ1 HBL hb1s;generalize w4.alloc _=w5 at *;generalize w4.heap.size=X at *;generalize w1.heap.size=M at *;go_upto_region 9 with fail;obtain⟨d0,d1,d2,d3,d4,d5⟩:=zr5 HX.out;have q1:=HQ4.out;have hxl:=zc HX.out;have HI2:=zzH (fun wx=>HIN.out lo' fo' go' co' lc' fc' gc' cc' wx);have hbl4:=HBL4.out;have hself:((zd1 u).toList==(zd1 u).toList)=true:=beq_self_eq_true _;generalize zd1 u=IB at *
 go_region_held3 (fun w'=>w'.cell? ⟨X,0,none⟩=some (.string u.mdl)/\w'.cell? ⟨X,1,none⟩=some (.int .i64 u.vsn)/\w'.cell? ⟨X,2,none⟩=some (.slice lo' u.lits.length lc')/\w'.cell? ⟨X,3,none⟩=some (.slice fo' u.funcs.length fc')/\w'.cell? ⟨X,4,none⟩=some (.slice go' u.funs.length gc')/\w'.cell? ⟨X,5,none⟩=some (.slice co' u.code.length cc')/\w'.cell? ⟨b,off+1,none⟩=some (.string IB)) (exact⟨by assumption,by assumption,by assumption,by assumption,by assumption,by assumption,by assumption⟩)
  (first|(go_at_call 15;refine(HI2.out _).mono ?_;rintro e w6 ⟨rfl,hb6⟩;have k0:=(hb6.cell (p:=⟨X,0,none⟩) hxl).trans d0;have k1:=(hb6.cell (p:=⟨X,1,none⟩) hxl).trans d1;have k2:=(hb6.cell (p:=⟨X,2,none⟩) hxl).trans d2;have k3:=(hb6.cell (p:=⟨X,3,none⟩) hxl).trans d3;have k4:=(hb6.cell (p:=⟨X,4,none⟩) hxl).trans d4;have k5:=(hb6.cell (p:=⟨X,5,none⟩) hxl).trans d5;have kq:=(hb6.cell (p:=⟨b,off+1,none⟩) hbl4).trans q1;have HB6:=zzH hb6;clear hb6))
 have hb56:Below w5.heap.size w5 w6:=(zzR _ _).drew.trans HB6.out;refine zzK4 ((hb56.block _ (zc HZ4.out)).trans HZ4.out) ((hb56.block _ (zc HX.out)).trans HX.out) (HIN4.out.kept hb56.size (fun b _ h=>hb56.block b h) (fun b h _=>h)) (zd HB4.out hb56) fun HZ6 HX6 HIN6 HB7=>?_;clear hb56 k0 k1 k2 k3 k4 k5 kq d0 d1 d2 d3 d4 d5 q1 HB6 HZ4 HX HIN4
 go_wp2_with (first
  |(refine wpList_load_row rfl 27 _ rfl X rfl 27 _ _ _ HX6.out Tryz.underlying27 rfl (by kernel_rfl) ?_)
  |(refine wpList_store_row rfl 27 _ _ rfl w.heap.size _ rfl rfl 27 _ HZ6.out (by kernel_rfl) rfl (by simp [Value.oneCell']) ?_)
  |fail)
 refine zzj (zT rfl _ _ _ w.heap.size _ _ _ _ rfl (setRow_heap _ _ _ _ _ _ HZ6.out) Tryz.underlying27 (by kernel_rfl)) rfl ?_;rw [HQ.out];have hfin:=(HIN6.out.kept (w':=w6.setRow w.heap.size #[.string u.mdl,.int .i64 u.vsn,.slice lo' u.lits.length lc',.slice fo' u.funcs.length fc',.slice go' u.funs.length gc',.slice co' u.code.length cc']) (P':=fun _=>True) (by simp [World.setRow]) (fun b h _=>setRow_other _ _ _ _ (by have:=HM.out;omega)) (fun _ _ _=>trivial)).up;exact⟨⟨lo',lc',fo',fc',go',gc',co',cc',rfl,hfin.1,hfin.2⟩,below_setRow HB7.out (zzL _) _⟩
open Go.RowKit Go.Shelf Go.Lib
def ztR (w:World) (e:Ending) (w':World):Prop:=e= .returned (.bool true)/\Below w.heap.size w w'
structure SavesP (W:World) (u:RUnit) (lo fo go co:Option Addr) (lc fc gc cc:Nat) (s:ByteArray) (E:Int):Prop where
 sv: ∀wx,Below W.heap.size W wx->Calls Tryz.prog 6 #[.agg #[.string u.mdl,.int .i64 u.vsn,.slice lo u.lits.length lc,.slice fo u.funcs.length fc,.slice go u.funs.length gc,.slice co u.code.length cc]] wx fun en w'=>en= .returned (.tuple #[.string s,.int .i64 E])/\Below wx.heap.size wx w'
 rs: ∀wx,Below W.heap.size W wx->Calls Tryz.prog 7 #[.agg #[.string u.mdl,.int .i64 u.vsn,.slice lo u.lits.length lc,.slice fo u.funcs.length fc,.slice go u.funs.length gc,.slice co u.code.length cc]] wx fun en w'=>en= .returned (.tuple #[.string s,.int .i64 E])/\Below wx.heap.size wx w'
 ld:E=0-> ∀wx,Below W.heap.size W wx->Calls Tryz.prog 8 #[.string s] wx (zkC u wx)
theorem zox (f:Nat) (u:RUnit) (lo fo go co:zzA) (lc fc gc cc:Nat) (W:World) (hup:UP W u lo fo go co) (hrows:RowsAt W) (hsp:SpaceAt W) (hlits:SlAt W 9 (TmAt W (f+1)) lo u.lits) (hcap: ∀t∈u.lits,(zG (f+1) t:Int)<=1152921504606846976) (hl4:u.lits.length<=400) (hnm: ∀x∈u.code,x.name.size<=140737488355328):
  ∃s E,SavesP W u lo fo go co lc fc gc cc s E:=by
 rcases znG (f+1) u with h|h
 ·obtain⟨htab,htb,-⟩:=zeF h
  have hv:=zds htb;have hok:=zp2 hlits;obtain⟨hc2,hu2⟩:=zob h;have hok2: ∀t∈u.lits,OkF 2000 t:=fun t ht=>(zg0 (hv t ht)).2.2 (hok t ht)
  have hlen:=zop hc2 hl4;have hgz:=zra hc2 hok2;have hsz:(⟨(zbO (zbU 2000) u).toArray⟩:ByteArray).size=(zbO (zbU 2000) u).length:=by show(zbO (zbU 2000) u).toArray.size=_;rw [List.size_toArray]
  have hdl:(⟨(zbO (zbU 2000) u).toArray⟩:ByteArray).data.toList=zbO (zbU 2000) u:=List.toList_toArray;have hk:(0:Int)=0->u.mdl.size<=1000/\(⟨(zbO (zbU 2000) u).toArray⟩:ByteArray).size<=68719476736:=fun _=>⟨by have:=htab.mdl;omega,by omega⟩
  refine⟨⟨(zf8 u ⟨(zbO (zbU 2000) u).toArray⟩ 0).toArray⟩,zfL u ⟨(zbO (zbU 2000) u).toArray⟩ 0,fun wx hx=>?_,fun wx hx=>?_,fun hE wx hx=>?_⟩
  ·refine zjQ u lo fo go co lc fc gc cc _ 0 wx hup.vsn (fun wy hy=>?_) hk
   have:=zta (zbU (f+1)) f u lo fo go co lc fc gc cc wy (hrows.below (zd hx hy)) (hsp.below (zd hx hy)) (hup.below (zd hx hy)) (hlits.tms (zd hx hy)) hcap hnm (zsN hv hcap) h;rw [hu2]at this;exact this
  ·refine zjk u lo fo go co lc fc gc cc _ 0 wx hup.vsn (fun wy hy=>?_) hk
   have:=znM f u lo fo go co lc fc gc cc wy (hup.below (zd hx hy)) (hlits.tms (zd hx hy)) hcap h;rw [show zbO (ze8 f) u=zbO (zbU 2000) u from hu2]at this;exact this
  ·have e1:zf8 u ⟨(zbO (zbU 2000) u).toArray⟩ 0=zbQ (zcU u ⟨(zbO (zbU 2000) u).toArray⟩):=if_pos rfl
   have e2:zfL u ⟨(zbO (zbU 2000) u).toArray⟩ 0=zbx (zcU u ⟨(zbO (zbU 2000) u).toArray⟩):=if_pos rfl;rw [e1];exact zpL u _ wx (by rw [<-e2];exact hE) (by rw [hdl];exact hgz) (hk rfl).2 (hk rfl).1 hup.vsn (hrows.below hx) (hsp.below hx)
 ·have hk:(6:Int)=0->u.mdl.size<=1000/\(⟨#[]⟩:ByteArray).size<=68719476736:=fun h=>absurd h (by decide)
  refine⟨⟨(zf8 u ⟨#[]⟩ 6).toArray⟩,zfL u ⟨#[]⟩ 6,fun wx hx=>?_,fun wx hx=>?_,fun hE=>?_⟩
  ·exact zjQ u lo fo go co lc fc gc cc _ 6 wx hup.vsn (fun wy hy=>ztY f u lo fo go co lc fc gc cc wy (hrows.below (zd hx hy)) (hsp.below (zd hx hy)) (hup.below (zd hx hy)) (hlits.tms (zd hx hy)) hcap hnm h) hk
  ·exact zjk u lo fo go co lc fc gc cc _ 6 wx hup.vsn (fun wy hy=>zo7 f u lo fo go co lc fc gc cc wy (hup.below (zd hx hy)) (hlits.tms (zd hx hy)) hcap h) hk
  ·have e2:zfL u ⟨#[]⟩ 6=6:=if_neg (by decide)
   rw [e2]at hE;exact absurd hE (by decide)
theorem znn (u:RUnit) (lo fo go co:zzA) (lc fc gc cc:Nat) (w:World) (hup:UP w u lo fo go co) (hrows:RowsAt w) (hsp:SpaceAt w) (hnm: ∀x∈u.code,x.name.size<=140737488351232):
  Calls Tryz.prog 3 #[.agg (zzu u lo lc fo fc go gc co cc)] w (ztR w):=by
 unfold zzu;refine zzK4 hup hrows hsp hnm fun HUP HR HS HNM=>?_;clear hup hrows hsp hnm;go_in;go_upto_region 1 with fail;have hbx:=zcJ w u lo fo go co lc fc gc cc;have hba:Below w.heap.size w (w.alloc (.cells (zzu u lo lc fo fc go gc co cc) 27)):=zzE _ _;generalize w.alloc (.cells (zzu u lo lc fo fc go gc co cc) 27)=Wa at *;have HBA:=zzH hba;have HBX:=zzH hbx;have HUa:Hid (UP Wa u lo fo go co):=zzH (HUP.out.below HBA.out);have HRa:Hid (RowsAt Wa):=zzH (HR.out.below HBA.out);have HSa:Hid (SpaceAt Wa):=zzH (HS.out.below HBA.out);have d0:=hbx.c0;have d1:=hbx.c1;have d2:=hbx.c2;have d3:=hbx.c3;have d4:=hbx.c4;have d5:=hbx.c5;have hbl:=hbx.lt;clear hbx hba;go_wp2_with fail;refine(zm9 u lo fo go co lc fc gc cc Wa HUa.out).mono ?_;rintro e w1 ⟨b,rfl,hb1,hq⟩;refine zzK3 (zd HBA.out hb1) hb1 hq fun HB1 HB1a HQ=>?_;clear hb1 hq d0 d1 d2 d3 d4 d5 hbl
 cases b with
 |true=>
  go_wp2_with fail;refine(ze2 _).mono ?_;rintro e wz ⟨rfl,hbz⟩;go_wp2;go_ret;exact⟨rfl,zd HB1.out hbz⟩
 |false=>
  obtain⟨hl4,f0,hf0,hp0⟩:=HQ.out rfl;obtain⟨f,hlits,hcap⟩:=zsV hf0 hp0;obtain⟨s,E,hsv⟩:=zox f u lo fo go co lc fc gc cc Wa HUa.out HRa.out HSa.out hlits hcap hl4 (fun x hx=>zzY (HNM.out x hx) (by decide));have HSV:=zzH hsv
  have HSM:Hid (∀(lo' fo' go' co':zzA) (lc' fc' gc' cc':Nat) (wx:World),Below Wa.heap.size Wa wx->UP wx u lo' fo' go' co'->SlAt wx 9 (TmAt wx 2000) lo' u.lits ->
    Calls Tryz.prog 9 #[.agg #[.string u.mdl,.int .i64 u.vsn,.slice lo u.lits.length lc,.slice fo u.funcs.length fc,.slice go u.funs.length gc,.slice co u.code.length cc],.agg #[.string u.mdl,.int .i64 u.vsn,.slice lo' u.lits.length lc',.slice fo' u.funcs.length fc',.slice go' u.funs.length gc',.slice co' u.code.length cc']] wx fun e w'=>e= .returned (.bool true)/\Below wx.heap.size wx w'):=
   zzH (fun lo' fo' go' co' lc' fc' gc' cc' wx hx hup2 hl2=>zoR (f+2000) u lo fo go co lo' fo' go' co' lc fc gc cc lc' fc' gc' cc' wx (HUa.out.below hx) hup2 ((hlits.tms hx).imp fun _ _ h=>h.le (by omega)) (hl2.imp fun _ _ h=>h.le (by omega)))
  clear hl4 hf0 hp0 hlits hcap hsv HQ;have hbw:=HBX.out.below HB1a.out;have d5:=hbw.c5;have hbl:=hbw.lt;have HBX1:=zzH hbw;have hcl:=HUa.out.codeLen;clear hbw;go_wp2_with fail;clear d5 hbl;go_loopw [3] (fun iv wr=> ∃k:Nat,k<=u.code.length/\iv= .int .i64 k/\Hid (Below w1.heap.size w1 wr)) (fun iv _=>u.code.length-(intOf iv).toNat)
  case atStart=>exact⟨0,zzZ _,rfl,zzH (zzR _ _)⟩
  case round=>
   obtain⟨k,hk,rfl,HBr⟩:=hrel;rename World=>wr
   have HBR:=zzH (zd HB1.out HBr.out);have HBRa:=zzH (zd HB1a.out HBr.out);have hbw:=HBX1.out.below HBr.out;have d5:=hbw.c5;have hbl:=hbw.lt;by_cases hlt:k<u.code.length
   ·as_aux_lemma=>
    obtain⟨b,off,so,sc,co',cc',go',gc',hao,hb,q0,q1,q2,q3,q4,q5,q6,q7,q8,q9,_,_,_,_,_,_,s1,_,_,_,s4,s2,s3⟩:=(HUa.out.below HBRa.out).code.ins hlt;subst hao;unfold maxLen at s1 s2 s3 s4;clear q0 q1 q2 q4 q5 q6 hbw;generalize u.code[k]=x at *;have tk:(k:Int)<(u.code.length:Int):=by omega
    by_cases c0:300<x.src.length
    ·have t0:decide ((300:Int)<(x.src.length:Int))=true:=zzT (by omega)
     exact zz203
    have t0:decide ((300:Int)<(x.src.length:Int))=false:=zzD (by omega);by_cases c1:1100<x.cases.length
    ·have t1:decide ((1100:Int)<(x.cases.length:Int))=true:=zzT (by omega)
     exact zz203
    have t1:decide ((1100:Int)<(x.cases.length:Int))=false:=zzD (by omega);by_cases c2:100<x.segs.length
    ·have t2:decide ((100:Int)<(x.segs.length:Int))=true:=zzT (by omega)
     exact zz203
    have t2:decide ((100:Int)<(x.segs.length:Int))=false:=zzD (by omega);by_cases c3:100<x.name.size
    ·have t3:decide ((100:Int)<(x.name.size:Int))=true:=zzT (by omega)
     exact zz203
    have t3:decide ((100:Int)<(x.name.size:Int))=false:=zzD (by omega);go_wp2_with fail;go_roundw
    case rel=>exact⟨k+1,by omega,by go_num,HBr⟩
    case measure=>simp [intOf];omega
   ·as_aux_lemma=>
    have d0:=hbw.c0;have d1:=hbw.c1;have d2:=hbw.c2;have d3:=hbw.c3;have d4:=hbw.c4;clear hbw;go_wp2_with fail;refine(HSV.out.sv _ HBRa.out).mono ?_;rintro e w3 ⟨rfl,hb3⟩;have HB3:=zzH (zd HBR.out hb3);have HB3a:=zzH (zd HBRa.out hb3);have hbw:=HBX1.out.below (zd HBr.out hb3);have HBr3:=zzH (zd HBr.out hb3);clear hb3 d0 d1 d2 d3 d4 d5 hbl;have d0:=hbw.c0;have d1:=hbw.c1;have d2:=hbw.c2;have d3:=hbw.c3;have d4:=hbw.c4;have d5:=hbw.c5;have hbl:=hbw.lt;clear hbw;go_wp2_with fail;refine(HSV.out.rs _ HB3a.out).mono ?_;rintro e w4 ⟨rfl,hb4⟩;refine zzK3 (zd HB3.out hb4) (zd HB3a.out hb4) (zd HBr3.out hb4) fun HB4 HB4a HBr4=>?_;clear hb4 d0 d1 d2 d3 d4 d5 hbl;have hci:(s.toList==s.toList)=true:=beq_self_eq_true _;have hce:(E==E)=true:=beq_self_eq_true _;by_cases hE:E=0
    rotate_left
    ·have hne : (E != 0) = true := by rw [bne_iff_ne]; exact hE
     have hne2:(E==0)=false:=zzB.2 hE;go_wp2_with fail;refine(ze2 _).mono ?_;rintro e wz ⟨rfl,hbz⟩;go_wp2;go_ret;exact⟨rfl,zd HB4.out hbz⟩
    have HLD:=zzH (HSV.out.ld hE);subst hE;go_upto_region 14 with fail;clear hci hce;go_upto_region 15 with(first|(go_at_call 8;refine(HLD.out _ HB4a.out).mono ?_;rintro e w5 ⟨⟨lo',lc',fo',fc',go',gc',co',cc',rfl,hup5,hsl5⟩,hb5⟩)|fail);have hba:=(zzR w5.heap.size w5).alloc (zzL _) (.cells #[.string u.mdl,.int .i64 u.vsn,.slice lo' u.lits.length lc',.slice fo' u.funcs.length fc',.slice go' u.funs.length gc',.slice co' u.code.length cc'] 27);have hx:=zzF w5 (.cells #[.string u.mdl,.int .i64 u.vsn,.slice lo' u.lits.length lc',.slice fo' u.funcs.length fc',.slice go' u.funs.length gc',.slice co' u.code.length cc'] 27);have hb56:=hb5.trans (hba.mono hb5.size);have HB5:=zzH (zd HB4.out hb56);have HB5a:=zzH (zd HB4a.out hb56);have hbw:=HBX1.out.below (zd HBr4.out hb56);have HSMx:=zzH (HSM.out lo' fo' go' co' lc' fc' gc' cc' _ HB5a.out (hup5.below hba) (hsl5.tms hba));clear hba hb56 hup5 hsl5 hb5;generalize hw6:w5.alloc _=w6 at *;generalize w5.heap.size=X at *;clear hw6;obtain⟨x0,x1,x2,x3,x4,x5⟩:=zr5 hx;have hxl:=zc hx;have d0:=hbw.c0;have d1:=hbw.c1;have d2:=hbw.c2;have d3:=hbw.c3;have d4:=hbw.c4;have d5:=hbw.c5;have hbl:=hbw.lt;clear hbw hx;go_wp2_with fail;refine HSMx.out.mono ?_;rintro e w7 ⟨rfl,hb7⟩;clear x0 x1 x2 x3 x4 x5 d0 d1 d2 d3 d4 d5 hxl hbl;go_wp2_with fail;refine(ze2 _).mono ?_;rintro e wz ⟨rfl,hbz⟩;go_wp2;go_ret;exact⟨rfl,zd (zd HB5.out hb7) hbz⟩
open Go.ChangeShapes Go.WideShapes Go.ChangeAt Go.RowKit
open Go.ChangeMaps (open_string shut_string)
open Go.Proofs.YtijekmeocadkeaaGreatDoor
theorem own:ownKnob Tryz.prog.godebug=none:=by kernel_rfl
theorem laidOut:laidOutB Tryz.prog=true:=by kernel_rfl
noncomputable def laidWorldU (os:Os):World:=
 let w0:=Go.Proofs.YtijekmeocadkeaaGreatDoor.laidWorld os
 {w0 with heap:=(w0.heap.modify 1 fun
   |.cells _ t fr=>.cells (Go.Pinned.utf8FirstZ.map fun n:Nat=>Value.int .u8 (n:Int)).toArray t fr
   |o=>o).modify 2 fun
   |.cells _ t fr=>.cells #[.int .u8 128,.int .u8 191,.int .u8 160,.int .u8 191,.int .u8 128,.int .u8 159,.int .u8 144,.int .u8 191,.int .u8 128,.int .u8 143,.int .u8 0,.int .u8 0,.int .u8 0,.int .u8 0,.int .u8 0,.int .u8 0,.int .u8 0,.int .u8 0,.int .u8 0,.int .u8 0,.int .u8 0,.int .u8 0,.int .u8 0,.int .u8 0,.int .u8 0,.int .u8 0,.int .u8 0,.int .u8 0,.int .u8 0,.int .u8 0,.int .u8 0,.int .u8 0] t fr
   |o=>o}
theorem laid_met (os:Os):laidMet Tryz.prog Rows.fileUnitsRow.laid ((laidWorldU os).forCall (fun _ _=>0) ⟨#[],#[.agg #[.string ByteArray.empty,.int .i64 0,.slice none 0 0,.slice none 0 0,.slice none 0 0,.slice none 0 0]],[]⟩).memory:=
 laidMet_of_run3 8 (by kernel_rfl) (by kernel_rfl) (by kernel_rfl)
theorem reads (os:Os) {H:Type} (enc:TypeId × Value->H): ∃ds places,DataW.whole enc Tryz.prog ((laidWorldU os).forCall (fun _ _=>0) ⟨#[],#[.agg #[.string ByteArray.empty,.int .i64 0,.slice none 0 0,.slice none 0 0,.slice none 0 0,.slice none 0 0]],[]⟩).memory Tryz.f3.params.toList Rows.fileUnitsSpec.vars false (#[.agg #[.string ByteArray.empty,.int .i64 0,.slice none 0 0,.slice none 0 0,.slice none 0 0,.slice none 0 0]]:Array Value).toList 8=some (ds,[],places):=
 ⟨[.agg [.lit (.string []),.lit (.int .i64 0),.nil,.nil,.nil,.nil]],[],by kernel_rfl⟩
theorem lifted (os:Os) (started:os.Started) (H:Type) (enc:TypeId × Value->H) (F:Stop.Interp):
  ReturnsInHanded {} Tryz.checked os 3 .any ((OpenSpec.ofChange Rows.fileUnitsSpec).preRow enc Tryz.prog Tryz.f3 Rows.fileUnitsRow.domain false Rows.fileUnitsRow.laid) (((OpenSpec.ofChange Rows.fileUnitsSpec).at F).post enc Tryz.prog Tryz.f3 false true false false):=by
 obtain⟨ds0,places,hx⟩:=reads os enc
 refine returnsInHanded_of_row (C:=Tryz.checked) (s:=OpenSpec.ofChange Rows.fileUnitsSpec) own started (by kernel_rfl) Tryz.func3
  (witness_row_atRef (enc:=enc) (C:=Tryz.checked) false (laidWorldU os) #[.agg #[.string ByteArray.empty,.int .i64 0,.slice none 0 0,.slice none 0 0,.slice none 0 0,.slice none 0 0]] rfl (by kernel_rfl) (by kernel_rfl) (by kernel_rfl)
   (OpenSpec.preRow_of_cond 8 hx (by kernel_rfl) (fun k hk=>by cases hk) (by kernel_rfl) (laid_met os))) ?_
 intro W base args ds gs before hval0 hW _ _ hsz hL _ _;have hval: ∀(j:Nat) t v,Tryz.f3.params[j]?=some t->args[j]?=some v->Value.okWide Tryz.prog W .any base t v:=hval0
 have hW':=hW;obtain⟨p,q,hA0,hV,rfl,hfz,hnd⟩:=hW;have hA:DataW.TrodAll enc Tryz.prog W 0 (fun _=>true) true Tryz.f3.params.toList args.toList ds p:=hA0;rw [Tryz.params3]at hA hval hsz;obtain⟨v0,vs0,d0,ds0,p0,q0,hargs,rfl,rfl,h0,r0⟩:=trodAll_cons hA;obtain⟨rfl,rfl,rfl⟩:=trodAll_nil r0;obtain rfl:args=#[v0]:=by cases args;simp_all
 obtain⟨rfl,rfl⟩:=trodVars_none hV;have k0:=h0;obtain⟨u0,lo0,fo0,go0,co0,lc0,fc0,gc0,cc0,rfl,hup0,hnm0⟩:=zoN (hval 0 27 v0 rfl rfl) h0 (ziT _ _ hsz 0 _ _ rfl rfl);clear hA0 hval0;simp only [List.append_nil,List.nil_append]at hW';refine(znn u0 lo0 fo0 go0 co0 lc0 fc0 gc0 cc0 W hup0 (ztE hL (.tail _ (.tail _ (.tail _ (.head _))))) (zrb hL.tail) hnm0).mono fun e W' ⟨he,bel⟩=>?_
 subst he;exact⟨_,rfl,_,_,_,[],_,[],hW',trodAll_mk1 (shut_bool Tryz.underlying4 _),(trodAll_cons_mk (Below.trod laidOut (by kernel_rfl) (zza (by kernel_rfl)) k0 bel (fun x hx=>by first|exact absurd hx List.not_mem_nil|simpa using hW'.lt x (by simp [hx]))) trodAll_mk0),rfl,bel.frame _,fun h=>by cases h⟩
theorem said:Rows.FileUnitsSaid:=
 OpenClaim.holds_of_cond 3 Tryz.f3 rfl rfl rfl rfl rfl rfl rfl ⟨rfl,rfl,rfl,rfl,rfl⟩ rfl rfl rfl rfl rfl (by kernel_rfl) Tryz.func3 (by kernel_rfl)
  (zza (by kernel_rfl)) (by unfold Func.isWrapper;first|(rw [if_pos (by decide +kernel)];kernel_rfl)|(rw [if_neg (by decide +kernel)];exact⟨rfl,rfl⟩))
  (fun os started H enc _ F=>by rw [OpenClaim.pre_eq_preRow];exact lifted os started H enc F)
theorem plain (f:FuncId) (fn:Func) (hf:Tryz.pinned.checked.prog.funcNamed "stagehand/stagehandlaw26.FileUnits" =some f) (hfn:Tryz.pinned.checked.prog.funcs[f]?=some fn):
  true=Tryz.pinned.checked.prog.looks []/\ ∀(j:Nat) t,fn.params[j]?=some t->Tryz.pinned.checked.prog.wantsStandIn t=false:=by
 obtain rfl:f=3:=zzf ((show Tryz.prog.funcNamed "stagehand/stagehandlaw26.FileUnits" =some 3 by kernel_rfl).symm.trans hf) |>.symm;obtain rfl:fn=Tryz.f3:=(zzf (Tryz.func3.symm.trans hfn)).symm;refine⟨by kernel_rfl,fun j t ht=>?_⟩;rw [Tryz.params3]at ht;have hm:=Array.mem_of_getElem? ht;have hc:t=27:=by simpa using hm
 subst hc;exact(show Tryz.prog.wantsStandIn 27=false by kernel_rfl)
theorem proved:Rows.FileUnitsCardSaid:=
 Claim7.holds_tied_plain_at .later [] _ _ _ _ said (fun _ h=>by cases h) (by kernel_rfl) (fun _ h=>by cases h) fileUnits_row_tie rfl ⟨rfl,rfl⟩ (by kernel_rfl) rfl plain (by kernel_rfl)
#print axioms proved
end Go.Proofs.YtijekmeocadkeaaGreatDoor
