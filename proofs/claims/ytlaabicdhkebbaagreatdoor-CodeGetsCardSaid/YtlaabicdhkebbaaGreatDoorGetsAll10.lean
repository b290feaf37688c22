/- part 10 -/
import Derived.Test.YtlaabicdhkebbaaGreatDoorGetsAll07
import Derived.Test.YtlaabicdhkebbaaGreatDoorGetsAll08
import Derived.Test.YtlaabicdhkebbaaGreatDoorGetsAll09
namespace Go.Proofs.YtlaabicdhkebbaaGreatDoor
open Go.RowKit
set_option linter.unusedVariables false
set_option linter.unusedSimpArgs false
set_option maxRecDepth 100000
set_option maxHeartbeats 80000000
structure Out3 (X:Nat) (w:World) (row:Array Value) (n e:Value):Prop where
 x:w.heap[X]?=some (.cells row 47 (0,0))
 n:w.heap[X+1]?=some (.cells #[n] 3 (0,0))
 e:w.heap[X+2]?=some (.cells #[e] 29 (0,0))
theorem zqG {w:World} {B:Nat} {a0 a1 a2 a3 a4 a5 a6 a7 a8:Value} (v0 v1 v2 v3 v4 v5 v6 v7 v8:Value) (h:w.heap[B]?=some (.cells #[a0,a1,a2,a3,a4,a5,a6,a7,a8] 47 (0,0))):
  (((((((((w.setCell ⟨B,0,none⟩ v0).setCell ⟨B,1,none⟩ v1).setCell ⟨B,2,none⟩ v2).setCell ⟨B,3,none⟩ v3).setCell ⟨B,4,none⟩ v4).setCell ⟨B,5,none⟩ v5).setCell ⟨B,6,none⟩ v6).setCell ⟨B,7,none⟩ v7).setCell ⟨B,8,none⟩ v8).heap[B]?=some (.cells #[v0,v1,v2,v3,v4,v5,v6,v7,v8] 47 (0,0)):=by
 have h0:(w.setCell ⟨B,0,none⟩ v0).heap[B]?=some (.cells #[v0,a1,a2,a3,a4,a5,a6,a7,a8] 47 (0,0)):=zzS _ _ 0 _ _ v0 h
 have h1:((w.setCell ⟨B,0,none⟩ v0).setCell ⟨B,1,none⟩ v1).heap[B]?=some (.cells #[v0,v1,a2,a3,a4,a5,a6,a7,a8] 47 (0,0)):=zzS _ _ 1 _ _ v1 h0
 have h2:(((w.setCell ⟨B,0,none⟩ v0).setCell ⟨B,1,none⟩ v1).setCell ⟨B,2,none⟩ v2).heap[B]?=some (.cells #[v0,v1,v2,a3,a4,a5,a6,a7,a8] 47 (0,0)):=zzS _ _ 2 _ _ v2 h1
 have h3:((((w.setCell ⟨B,0,none⟩ v0).setCell ⟨B,1,none⟩ v1).setCell ⟨B,2,none⟩ v2).setCell ⟨B,3,none⟩ v3).heap[B]?=some (.cells #[v0,v1,v2,v3,a4,a5,a6,a7,a8] 47 (0,0)):=zzS _ _ 3 _ _ v3 h2
 have h4:(((((w.setCell ⟨B,0,none⟩ v0).setCell ⟨B,1,none⟩ v1).setCell ⟨B,2,none⟩ v2).setCell ⟨B,3,none⟩ v3).setCell ⟨B,4,none⟩ v4).heap[B]?=some (.cells #[v0,v1,v2,v3,v4,a5,a6,a7,a8] 47 (0,0)):=zzS _ _ 4 _ _ v4 h3
 have h5:((((((w.setCell ⟨B,0,none⟩ v0).setCell ⟨B,1,none⟩ v1).setCell ⟨B,2,none⟩ v2).setCell ⟨B,3,none⟩ v3).setCell ⟨B,4,none⟩ v4).setCell ⟨B,5,none⟩ v5).heap[B]?=some (.cells #[v0,v1,v2,v3,v4,v5,a6,a7,a8] 47 (0,0)):=zzS _ _ 5 _ _ v5 h4
 have h6:(((((((w.setCell ⟨B,0,none⟩ v0).setCell ⟨B,1,none⟩ v1).setCell ⟨B,2,none⟩ v2).setCell ⟨B,3,none⟩ v3).setCell ⟨B,4,none⟩ v4).setCell ⟨B,5,none⟩ v5).setCell ⟨B,6,none⟩ v6).heap[B]?=some (.cells #[v0,v1,v2,v3,v4,v5,v6,a7,a8] 47 (0,0)):=zzS _ _ 6 _ _ v6 h5
 have h7:((((((((w.setCell ⟨B,0,none⟩ v0).setCell ⟨B,1,none⟩ v1).setCell ⟨B,2,none⟩ v2).setCell ⟨B,3,none⟩ v3).setCell ⟨B,4,none⟩ v4).setCell ⟨B,5,none⟩ v5).setCell ⟨B,6,none⟩ v6).setCell ⟨B,7,none⟩ v7).heap[B]?=some (.cells #[v0,v1,v2,v3,v4,v5,v6,v7,a8] 47 (0,0)):=zzS _ _ 7 _ _ v7 h6
 have h8:(((((((((w.setCell ⟨B,0,none⟩ v0).setCell ⟨B,1,none⟩ v1).setCell ⟨B,2,none⟩ v2).setCell ⟨B,3,none⟩ v3).setCell ⟨B,4,none⟩ v4).setCell ⟨B,5,none⟩ v5).setCell ⟨B,6,none⟩ v6).setCell ⟨B,7,none⟩ v7).setCell ⟨B,8,none⟩ v8).heap[B]?=some (.cells #[v0,v1,v2,v3,v4,v5,v6,v7,v8] 47 (0,0)):=zzS _ _ 8 _ _ v8 h7
 exact h8
theorem Out3.nine {X:Nat} {w:World} {a0 a1 a2 a3 a4 a5 a6 a7 a8 n e:Value} (h:Out3 X w #[a0,a1,a2,a3,a4,a5,a6,a7,a8] n e) (v0 v1 v2 v3 v4 v5 v6 v7 v8:Value):
  Out3 X (((((((((w.setCell ⟨X,0,none⟩ v0).setCell ⟨X,1,none⟩ v1).setCell ⟨X,2,none⟩ v2).setCell ⟨X,3,none⟩ v3).setCell ⟨X,4,none⟩ v4).setCell ⟨X,5,none⟩ v5).setCell ⟨X,6,none⟩ v6).setCell ⟨X,7,none⟩ v7).setCell ⟨X,8,none⟩ v8) #[v0,v1,v2,v3,v4,v5,v6,v7,v8] n e:=
 ⟨zqG _ _ _ _ _ _ _ _ _ h.x,((OffB.nine X w v0 v1 v2 v3 v4 v5 v6 v7 v8).2 _ (by omega)).trans h.n,((OffB.nine X w v0 v1 v2 v3 v4 v5 v6 v7 v8).2 _ (by omega)).trans h.e⟩
theorem Out3.two {X:Nat} {w:World} {row:Array Value} {n e:Value} (h:Out3 X w row n e) (n2 e2:Value):Out3 X ((w.setCell ⟨X+1,0,none⟩ n2).setCell ⟨X+2,0,none⟩ e2) row n2 e2:=
 ⟨((OffB.set (X+2) _ 0 e2).2 _ (by omega)).trans (((OffB.set (X+1) w 0 n2).2 _ (by omega)).trans h.x),((OffB.set (X+2) _ 0 e2).2 _ (by omega)).trans (zzS w _ 0 _ _ n2 h.n),zzS _ _ 0 _ _ e2 (((OffB.set (X+1) w 0 n2).2 _ (by omega)).trans h.e)⟩
theorem Out3.below {X:Nat} {w w':World} {row:Array Value} {n e:Value} (h:Out3 X w row n e) (hb:Below w.heap.size w w'):Out3 X w' row n e:=
 ⟨(hb.block _ (zc h.x)).trans h.x,(hb.block _ (zc h.n)).trans h.n,(hb.block _ (zc h.e)).trans h.e⟩
theorem zoG (a b c:Value) (w:World):
  CallsD Tryz.prog 88 #[a,b,c] .returning w fun e u' w'=>e= .returned (.tuple #[])/\u'= .returning/\w'=w:=by
 refine callsD_of_wpS Tryz.func88 rfl fun c₀ cs hu=>?_
 apply wpS_seq;generalize hK:Exit.thenS _ _=K;apply wpS_region;simp [wpOpsS,go_sem,recoverD,hu,Tryz.ntmps88];subst hK;simp only [Exit.thenS];refine wpS_of_wp ?_;go_wp2_with fail
 cases c₀
 simp_all [bodyPostS,results,Tryz.results88]
theorem zib (X:Nat) (v0 v1 v2 v3 v4 v5 v6 v7 v8 n e:Value) (older:List PanicEntry) (w:World) (h:Out3 X w #[v0,v1,v2,v3,v4,v5,v6,v7,v8] n e):
  CallsD Tryz.prog 88 #[.pointer (some ⟨X,0,none⟩),.pointer (some ⟨X+1,0,none⟩),.pointer (some ⟨X+2,0,none⟩)] (.panicking ({v:=.iface 153 (.agg #[]),recovered:=false}::older)) w fun e u' w'=>
   e= .returned (.tuple #[])/\u'= .panicking ({v:=.iface 153 (.agg #[]),recovered:=true}::older)/\Out3 X w' zo (.int .i64 0) (.int .i64 6)/\Below X w w':=by
 have hta: ∀wx:World,(Instr.typeAssert (Value.iface 153 (.agg #[])) 20 153 true).run Tryz.prog wx= .ok (.tuple #[.agg #[],.bool true]) wx:=fun wx=>by kernel_rfl
 refine callsD_of_wpS Tryz.func88 rfl fun c₀ cs hu=>?_
 apply wpS_seq;generalize hK:Exit.thenS _ _=K;apply wpS_region;simp [wpOpsS,go_sem,recoverD,hu,Tryz.ntmps88];subst hK;simp only [Exit.thenS];refine wpS_of_wp ?_;have hx:=zc h.x;have hx1:=zc h.n;have hx2:=zc h.e;have hb:Below w.heap.size w (w.alloc (.cells #[] 153)):=(zzR _ _).alloc (zzL _) _;have hd:Below w.heap.size w (w.alloc (.cells #[] 153)).drew:=hb.drew;have h2:Out3 X (w.alloc (.cells #[] 153)) #[v0,v1,v2,v3,v4,v5,v6,v7,v8] n e:=⟨(hb.block _ hx).trans h.x,(hb.block _ hx1).trans h.n,(hb.block _ hx2).trans h.e⟩;go_upto_region 5 with fail;generalize w.alloc _=w1 at *;clear h;obtain⟨c0,c1,c2,c3,c4,c5,c6,c7,c8,d0,d1,d2,d3,d4,d5,d6,d7,d8⟩:=zf h2.x;have k1:w1.cell? ⟨X+1,0,none⟩=some n:=zzq2 w1 _ 0 _ _ _ h2.n;have k2:w1.cell? ⟨X+2,0,none⟩=some e:=zzq2 w1 _ 0 _ _ _ h2.e;have f1:w1.frozen? ⟨X+1,0,none⟩=false:=zzq9 w1 _ 0 _ _ h2.n;have f2:w1.frozen? ⟨X+2,0,none⟩=false:=zzq9 w1 _ 0 _ _ h2.e;have hN:=h2.nine (.int .i64 0) (.int .i64 0) (.int .i64 0) (.string ⟨#[]⟩) (.string ⟨#[]⟩) (.int .i64 0) (.slice none 0 0) (.string ⟨#[]⟩) (.int .i64 0);have hO:=hN.two (.int .i64 0) (.int .i64 6);have hB:Below X w _:=((zb1 (B:=X) (zzL _) (hb.mono (Nat.le_of_lt hx)) (.int .i64 0) (.int .i64 0) (.int .i64 0) (.string ⟨#[]⟩) (.string ⟨#[]⟩) (.int .i64 0) (.slice none 0 0) (.string ⟨#[]⟩) (.int .i64 0)).setCell (p:=⟨X+1,0,none⟩) (show X<=X+1 by omega) (.int .i64 0)).setCell (p:=⟨X+2,0,none⟩) (show X<=X+2 by omega) (.int .i64 6);go_wp2_with fail;clear h2 hN c0 c1 c2 c3 c4 c5 c6 c7 c8 d0 d1 d2 d3 d4 d5 d6 d7 d8 k1 k2 f1 f2;generalize World.setCell _ ⟨X+2,0,none⟩ _=w9 at *;simp [bodyPostS,results,Tryz.results88];exact⟨hO,hB⟩
def zmk (s:ByteArray) (w:World) (e:Ending) (w':World):Prop:=
 (match zcd s.data.toList with
 |none=>e= .returned (.tuple #[.agg zo,.int .i64 0,.int .i64 6])
 |some (t,l)=> ∃so c,e= .returned (.tuple #[.agg #[.int .i64 t.kind,.int .i64 t.int,.int .i64 t.gen,.string t.name,.string t.func,.int .i64 t.arity,.slice so t.items.length c,.string t.bytes,.int .i64 t.bits],.int .i64 ((s.size:Int)-l.length),.int .i64 0])/\TmIn w' (w.heap.size<= ·) 2000 (tmL t so c) t)/\Below w.heap.size w w'
theorem zfU {fn:Func} {p q u:Tmp} {ty t1 t2:TypeId} (h:fn.results=#[.cell p ty,.cell q t1,.cell u t2]) (tmps:Array Value) (P:Program) (w:World) (X:Nat) (cs:Array Value) (n e:Value) (fs:Array Field)
  (hp:tmps.getD p undef= .pointer (some ⟨X,0,none⟩)) (hq:tmps.getD q undef= .pointer (some ⟨X+1,0,none⟩)) (hu:tmps.getD u undef= .pointer (some ⟨X+2,0,none⟩)) (ho:Out3 X w cs n e)
  (hty:P.underlying ty=some (.struct fs)) (hi:(P.info? ty).map (·.size)=some cs.size) (h1:(loadVar t1 ⟨X+1,0,none⟩).run P w= .ok n w) (h2:(loadVar t2 ⟨X+2,0,none⟩).run P w= .ok e w):
  (results fn tmps).run P w= .ok (.tuple #[.agg cs,n,e]) w:=by
 have hl:=run_loadVar_row w X 47 ty cs (0,0) (.struct fs) ho.x hty rfl hi;have hp':tmps[p]?.getD undef= .pointer (some ⟨X,0,none⟩):=by simpa using hp
 have hq':tmps[q]?.getD undef= .pointer (some ⟨X+1,0,none⟩):=by simpa using hq
 have hu':tmps[u]?.getD undef= .pointer (some ⟨X+2,0,none⟩):=by simpa using hu
 simp [results,h,hp',hq',hu',asAddr,hl,h1,h2]
theorem zhH {X:Nat} {w:World} {v:Value} (h:w.heap[X]?=some (.cells #[v] 3 (0,0))):(loadVar 3 ⟨X,0,none⟩).run Tryz.prog w= .ok v w:=by
 have k:=zzq2 w X 0 _ _ _ h;simp [loadVar,isAgg,go_sem,Tryz.underlying3,k]
theorem zds {X:Nat} {w:World} {v:Value} (h:w.heap[X]?=some (.cells #[v] 29 (0,0))):(loadVar 29 ⟨X,0,none⟩).run Tryz.prog w= .ok v w:=by
 have k:=zzq2 w X 0 _ _ _ h;simp [loadVar,isAgg,go_sem,Tryz.underlying29,k]
theorem Out3.grown {X:Nat} {w w':World} {row:Array Value} {n e:Value} (h:Out3 X w row n e) (hg:w.grownBy w' (some (X+3))):Out3 X w' row n e:=
 ⟨(hg.block _ (zc h.x) (by simp)).trans h.x,(hg.block _ (zc h.n) (by simp)).trans h.n,(hg.block _ (zc h.e) (by simp)).trans h.e⟩
theorem zct {B r:Nat} {a b c:World} (h:Below B a b) (hg:b.grownBy c (some r)) (hr:B<=r) (hs:B<=b.heap.size):Below B a c:=
 h.grown hg hs fun k e=>by have:=Option.some.inj e;omega
theorem RdL.off {r:Nat} {s:ByteArray} {l:List UInt8} {p X:Nat} {w w':World} (h:RdL r s l p w) (ho:OffB X w w') (hr:r≠X):RdL r s l p w':=by
 obtain⟨a,h1,h2⟩:=h;exact⟨a,(ho.2 r hr).trans h1,h2⟩
theorem zht (w:World) (o0 o1 o2 o3:Obj):((((w.alloc o0).alloc o1).alloc o2).alloc o3).heap[w.heap.size]?=some o0/\((((w.alloc o0).alloc o1).alloc o2).alloc o3).heap[w.heap.size+1]?=some o1 /\
  ((((w.alloc o0).alloc o1).alloc o2).alloc o3).heap[w.heap.size+2]?=some o2/\((((w.alloc o0).alloc o1).alloc o2).alloc o3).heap[w.heap.size+3]?=some o3:=by
 have n0:=heap_alloc_new w o0;have n1:=heap_alloc_new (w.alloc o0) o1;have n2:=heap_alloc_new ((w.alloc o0).alloc o1) o2;have n3:=heap_alloc_new (((w.alloc o0).alloc o1).alloc o2) o3;rw [show(w.alloc o0).heap.size=w.heap.size+1 by simp]at n1;rw [show((w.alloc o0).alloc o1).heap.size=w.heap.size+2 by simp]at n2;rw [show(((w.alloc o0).alloc o1).alloc o2).heap.size=w.heap.size+3 by simp]at n3;refine⟨?_,?_,?_,n3⟩
 ·rw [Below.heap_alloc _ _ _ (by simp;omega),Below.heap_alloc _ _ _ (by simp;omega),Below.heap_alloc _ _ _ (by simp)];exact n0
 ·rw [Below.heap_alloc _ _ _ (by simp),Below.heap_alloc _ _ _ (by simp)];exact n1
 ·rw [Below.heap_alloc _ _ _ (by simp)];exact n2
theorem znX (s:ByteArray) (w:World) (hs:s.size<=9223372036854775807):Calls Tryz.prog 62 #[.string s] w (zmk s w):=by
 have hmf: ∀(fn:Fn) (first cap:Array Value) (w:World),(Instr.makeFunc fn first cap).run Tryz.prog w= .ok (.func fn first cap) w:=fun _ _ _ _=>rfl
 generalize hQ:zmk s w=Q at *;have HQ:=zzH hQ;clear hQ;go_enter_defers Tryz.func62,Tryz.ntmps62;go_upto_region 3 with fail;simp only [Nat.add_assoc,Nat.reduceAdd]
 have hO:Out3 w.heap.size ((((w.alloc (.cells zo 47)).alloc (.cells #[.int .i64 0] 3)).alloc (.cells #[.int .i64 0] 29)).alloc (.cells #[.string s,.int .i64 0,.int .i64 0] 157)) zo (.int .i64 0) (.int .i64 0):=by
  obtain⟨h0,h1,h2,-⟩:=zht w (.cells zo 47) (.cells #[.int .i64 0] 3) (.cells #[.int .i64 0] 29) (.cells #[.string s,.int .i64 0,.int .i64 0] 157);exact⟨h0,h1,h2⟩
 have hR:RdL (w.heap.size+3) s s.data.toList 0 ((((w.alloc (.cells zo 47)).alloc (.cells #[.int .i64 0] 3)).alloc (.cells #[.int .i64 0] 29)).alloc (.cells #[.string s,.int .i64 0,.int .i64 0] 157)):=
  ⟨0,(zht w _ _ _ _).2.2.2,zzZ _,rfl,hs⟩
 have hB:Below w.heap.size w ((((w.alloc (.cells zo 47)).alloc (.cells #[.int .i64 0] 3)).alloc (.cells #[.int .i64 0] 29)).alloc (.cells #[.string s,.int .i64 0,.int .i64 0] 157)):=
  ((((zzR _ _).alloc (zzL _) _).alloc (by simp) _).alloc (by simp;omega) _).alloc (by simp;omega) _
 unfold zo at hO hR hB;generalize World.alloc _ _=w4 at *;have hX:w.heap.size+3<w4.heap.size:=hR.lt;generalize hXX:w.heap.size=X at *;have HX:=zzH hXX;clear hXX;have HT:=zhJ 2000 (X+3) s s.data.toList 0 w4 hR (by omega) (by omega);rcases h1:zA 2000 0 s.data.toList with _|⟨⟨t,p⟩,l⟩
 ·rw [h1]at HT
  have HD:Hid (zcd s.data.toList=none):=zzH (by unfold zcd;rw [h1];rfl);go_wp2_with (go_at_call 89;refine HT.mono ?_;rintro e w5 ⟨rfl,hg⟩);refine leaves_cons (f:=88) (args:=#[.pointer (some ⟨X,0,none⟩),.pointer (some ⟨X+1,0,none⟩),.pointer (some ⟨X+2,0,none⟩)]) (by simp) (by simp [go_sem]) ?_;refine(zib X _ _ _ _ _ _ _ _ _ _ _ [] _ (hO.grown hg)).mono ?_;rintro e u' w'' ⟨rfl,rfl,hO9,hB9⟩;simp only [settle,List.dropWhile_nil];refine⟨_,zfU rfl _ _ _ X _ _ _ _ rfl rfl rfl hO9 Tryz.underlying47 (by kernel_rfl) (zhH hO9.n) (zds hO9.e),?_⟩;rw [<-HQ.out];refine⟨by rw [HD.out],?_⟩;rw [HX.out];exact(zct hB hg (by omega) (by omega)).trans hB9
 rw [h1]at HT;have hok:=zfY 2000 0 s.data.toList t p l h1 (by omega) hR.len;have hcap:=zf5 2000 t hok.1;have hn:=zle 2000 0 s.data.toList t p l h1;go_upto_region 4 with(go_at_call 89;refine HT.mono ?_;rintro e w5 ⟨⟨so,c,rfl,htm⟩,hr,hg⟩;have hO5:=hO.grown hg;obtain⟨x0,x1,x2,x3,x4,x5,x6,x7,x8,y0,y1,y2,y3,y4,y5,y6,y7,y8⟩:=zf hO5.x);have hO6:=hO5.nine (.int .i64 t.kind) (.int .i64 t.int) (.int .i64 t.gen) (.string t.name) (.string t.func) (.int .i64 t.arity) (.slice so t.items.length c) (.string t.bytes) (.int .i64 t.bits);have hB6:=zb1 (B:=X) (zzL _) (zct hB hg (by omega) (by omega)) (.int .i64 t.kind) (.int .i64 t.int) (.int .i64 t.gen) (.string t.name) (.string t.func) (.int .i64 t.arity) (.slice so t.items.length c) (.string t.bytes) (.int .i64 t.bits);have hsl:=htm.sl.off (OffB.nine X w5 (.int .i64 t.kind) (.int .i64 t.int) (.int .i64 t.gen) (.string t.name) (.string t.func) (.int .i64 t.arity) (.slice so t.items.length c) (.string t.bytes) (.int .i64 t.bits)) (show X<w4.heap.size by omega) (zzL _);have hX5:X<w5.heap.size:=zc hO5.x;have hr6:=hr.off (OffB.nine X w5 (.int .i64 t.kind) (.int .i64 t.int) (.int .i64 t.gen) (.string t.name) (.string t.func) (.int .i64 t.arity) (.slice so t.items.length c) (.string t.bytes) (.int .i64 t.bits)) (by omega);have hs6:w5.heap.size<=_:=(OffB.nine X w5 (.int .i64 t.kind) (.int .i64 t.int) (.int .i64 t.gen) (.string t.name) (.string t.func) (.int .i64 t.arity) (.slice so t.items.length c) (.string t.bytes) (.int .i64 t.bits)).1;clear hO5 x0 x1 x2 x3 x4 x5 x6 x7 x8 y0 y1 y2 y3 y4 y5 y6 y7 y8 hr htm HT hO hR hB;generalize World.setCell _ _ _=w6 at *;obtain⟨x0,x1,x2,x3,x4,x5,x6,x7,x8,y0,y1,y2,y3,y4,y5,y6,y7,y8⟩:=zf hO6.x;have hat:SlAt w6 9 (TmAt w6 1999) so t.items:=hsl.at fun j hj cs hx=>hx.ok (hok.1.2 _ (List.getElem_mem hj))
 have HV:=zfB 1999 t so c w6 hat hok.1.1 (by have h2:zR (1999+1) t+1<=301*zW 2000 t:=hcap;omega);have HTT:=zzH hsl;have HLE:Hid (X+3<w4.heap.size):=zzH hX;clear hsl hat hok hcap hn hg hs6 hX hX5;by_cases cv:zD 2000 t=true
 case neg=>
  have HD:Hid (zcd s.data.toList=none):=zzH (by unfold zcd;rw [h1,zzq0];exact if_neg cv);rw [show zD (1999+1) t=false by simpa using cv]at HV;go_wp2_with (first|(go_at_call 57;refine HV.mono ?_;rintro e w7 ⟨rfl,hb7⟩)|(go_at_call 90;refine(zcC _ _).mono ?_;rintro e w8 ⟨rfl,rfl⟩));refine leaves_cons (f:=88) (args:=#[.pointer (some ⟨X,0,none⟩),.pointer (some ⟨X+1,0,none⟩),.pointer (some ⟨X+2,0,none⟩)]) (by simp) (by simp [go_sem]) ?_;refine(zib X _ _ _ _ _ _ _ _ _ _ _ [] _ (hO6.below hb7)).mono ?_;rintro e u' w'' ⟨rfl,rfl,hO9,hB9⟩;simp only [settle,List.dropWhile_nil];refine⟨_,zfU rfl _ _ _ X _ _ _ _ rfl rfl rfl hO9 Tryz.underlying47 (by kernel_rfl) (zhH hO9.n) (zds hO9.e),?_⟩;rw [<-HQ.out];refine⟨by rw [HD.out],?_⟩;rw [HX.out];exact(hB6.trans (hb7.mono (Nat.le_of_lt (zc hO6.x)))).trans hB9
 have HD:Hid (zcd s.data.toList=some (t,l)):=zzH (by unfold zcd;rw [h1,zzq0];exact if_pos cv);rw [show zD (1999+1) t=true from cv]at HV;go_upto_region 5 with(first|(go_at_call 57;refine HV.mono ?_;rintro e w7 ⟨rfl,hb7⟩)|(go_at_call 90;refine(zbg _ _).mono ?_;rintro e w8 ⟨rfl,rfl⟩));have hO7:=hO6.below hb7;have hr7:=hr6.below hb7;have HT7:Hid (SlIn w7 (w4.heap.size<= ·) 9 (TmIn w7 (w4.heap.size<= ·) 1999) so t.items):=zzH (HTT.out.kept hb7.size (fun b _ hl=>hb7.block b hl) (fun b h _=>h) fun _ _ h=>h.below hb7);have HB7:Hid (Below X w w7):=zzH (hB6.trans (hb7.mono (Nat.le_of_lt (zc hO6.x))));clear x0 x1 x2 x3 x4 x5 x6 x7 x8 y0 y1 y2 y3 y4 y5 y6 y7 y8 HV hO6 hr6 hb7 hB6 HTT;obtain⟨a,hA,ha,hal,hss⟩:=hr7;have hlen:=zdy ha hal;obtain⟨r0,r1,r2,g1,g2⟩:=hA.cells;obtain⟨x0,x1,x2,x3,x4,x5,x6,x7,x8,y0,y1,y2,y3,y4,y5,y6,y7,y8⟩:=zf hO7.x;have k1:w7.cell? ⟨X+1,0,none⟩=some (.int .i64 0):=zzq2 w7 _ 0 _ _ _ hO7.n;have k2:w7.cell? ⟨X+2,0,none⟩=some (.int .i64 0):=zzq2 w7 _ 0 _ _ _ hO7.e;have f1:w7.frozen? ⟨X+1,0,none⟩=false:=zzq9 w7 _ 0 _ _ hO7.n;have f2:w7.frozen? ⟨X+2,0,none⟩=false:=zzq9 w7 _ 0 _ _ hO7.e;go_region;have hLE:=HLE.out;have hO8:=(hO7.nine (.int .i64 t.kind) (.int .i64 t.int) (.int .i64 t.gen) (.string t.name) (.string t.func) (.int .i64 t.arity) (.slice so t.items.length c) (.string t.bytes) (.int .i64 t.bits)).two (.int .i64 a) (.int .i64 0);have hB8:Below X w _:=((zb1 (B:=X) (zzL _) HB7.out (.int .i64 t.kind) (.int .i64 t.int) (.int .i64 t.gen) (.string t.name) (.string t.func) (.int .i64 t.arity) (.slice so t.items.length c) (.string t.bytes) (.int .i64 t.bits)).setCell (p:=⟨X+1,0,none⟩) (show X<=X+1 by omega) (.int .i64 a)).setCell (p:=⟨X+2,0,none⟩) (show X<=X+2 by omega) (.int .i64 0);have hS8:=((HT7.out.off (OffB.nine X w7 (.int .i64 t.kind) (.int .i64 t.int) (.int .i64 t.gen) (.string t.name) (.string t.func) (.int .i64 t.arity) (.slice so t.items.length c) (.string t.bytes) (.int .i64 t.bits)) (show X<w4.heap.size by omega) (zzL _)).off (OffB.set (X+1) _ 0 (.int .i64 a)) (show X+1<w4.heap.size by omega) (zzL _)).off (OffB.set (X+2) _ 0 (.int .i64 0)) (show X+2<w4.heap.size by omega) (show X<=w4.heap.size by omega);clear x0 x1 x2 x3 x4 x5 x6 x7 x8 y0 y1 y2 y3 y4 y5 y6 y7 y8 k1 k2 f1 f2 r0 r1 r2 g1 g2 hA hO7 HB7 HT7;generalize World.setCell _ ⟨X+2,0,none⟩ _=w8 at *;go_wp2_with fail;refine leaves_cons (f:=88) (args:=#[.pointer (some ⟨X,0,none⟩),.pointer (some ⟨X+1,0,none⟩),.pointer (some ⟨X+2,0,none⟩)]) (by simp) (by simp [go_sem]) ?_;refine(zoG _ _ _ _).mono ?_;rintro e u' w'' ⟨rfl,rfl,rfl⟩;simp only [settle];have hO9:Out3 X w8.drew _ _ _:=hO8.below (zzR _ _).drew;refine⟨_,zfU rfl _ _ _ X _ _ _ _ rfl rfl rfl hO9 Tryz.underlying47 (by kernel_rfl) (zhH hO9.n) (zds hO9.e),?_⟩;rw [<-HQ.out];refine⟨?_,by rw [HX.out];exact hB8.drew⟩;rw [HD.out];refine⟨so,c,congrArg (fun z:Int=>Ending.returned (.tuple #[_,.int .i64 z,_])) (by omega),so,c,rfl,?_⟩;rw [HX.out];exact hS8.kept (zzL _) (fun _ _ _=>rfl) (fun _ h _=>h) fun _ _ h=>h.below (zzR _ _).drew
def zl9 (s:ByteArray) (w:World) (e:Ending) (w':World):Prop:=
 (match zcr s.data.toList with
 |none=>e= .returned (.tuple #[.agg #[.int .i64 0,.int .i64 0,.int .i64 0,.string ⟨#[]⟩,.string ⟨#[]⟩,.int .i64 0,.slice none 0 0,.string ⟨#[]⟩,.int .i64 0],.int .i64 6])
 |some t=> ∃so c,e= .returned (.tuple #[.agg #[.int .i64 t.kind,.int .i64 t.int,.int .i64 t.gen,.string t.name,.string t.func,.int .i64 t.arity,.slice so t.items.length c,.string t.bytes,.int .i64 t.bits],.int .i64 0])/\TmIn w' (w.heap.size<= ·) 2000 (tmL t so c) t)/\Below w.heap.size w w'
theorem zi8 {s:ByteArray} {c:UInt8} {l:List UInt8} (h:s.data.toList=c::l):(s.extract 1 s.size).data.toList=l/\(s.extract 1 s.size).size+1=s.size:=by
 have hl:s.size=l.length+1:=by have:=congrArg List.length h;rw [Array.length_toList]at this;exact this
 refine⟨?_,by rw [ByteArray.size_extract];omega⟩;rw [ByteArray.data_extract,Array.toList_extract,List.extract_eq_take_drop,h,List.drop_one,List.tail_cons,List.take_of_length_le (by omega)]
theorem zh4 {l l2:List UInt8} {t:Tm} (h:zcd l=some (t,l2)) (hl:l.length<=maxLen):l2.length<=l.length/\OkF 2000 t:=by
 unfold zcd at h;obtain⟨x,hx,h⟩:=zzO.1 h;split at h
 ·simp only [zzX1]at h
  obtain⟨rfl,rfl⟩:=h;have:=zfY 2000 0 l x.1.1 x.1.2 x.2 hx (by omega) hl;exact⟨this.2.2.2,this.1⟩
 ·exact zz69
theorem SlIn.new {w w':World} {B f:Nat} {ao:Option Addr} {ts:List Tm} (h:SlIn w (B<= ·) 9 (TmIn w (B<= ·) f) ao ts) (hb:Below w.heap.size w w'):SlIn w' (B<= ·) 9 (TmIn w' (B<= ·) f) ao ts:=
 h.kept hb.size (fun b _ hl=>hb.block b hl) (fun b h _=>h) fun _ _ h=>h.below hb
theorem zqn (s:ByteArray) (w:World) (hs:s.size<=9223372036854775807):Calls Tryz.prog 31 #[.string s] w (zl9 s w):=by
 generalize hQ:zl9 s w=Q at *;have HQ:=zzH hQ;clear hQ
 cases hl:s.data.toList with
 |nil=>
  exact zz107
 |cons c l=>
  obtain⟨ht,hz⟩:=zi8 hl;have hT:=znX (s.extract 1 s.size);unfold zmk at hT;rw [ht]at hT;have x:=heap_alloc_new w (.cells zo 47);go_in;go_upto_region 1 with fail;have hb:Below w.heap.size w (w.alloc (.cells zo 47)):=(zzR _ _).alloc (zzL _) _;unfold zo at x hb;generalize w.alloc _=w1 at *;have hne: ¬s.toList= []:=by rw [zzq10,hl];simp
  have hne3:s.toList.isEmpty=false:=by rw [zzq10,hl];rfl
  have hsz:0<s.size:=by omega
  have hc0:s[0]=c:=by
   exact zz110
  have hcl:=c.toNat_lt;by_cases c1:c.toNat=131
  case neg=>
   exact zz108
  have hnc:((s[0].toNat:Int)!=131)=false:=by rw [hc0,c1];rfl
  have hnd:(s[0].toNat:Int)=131:=by rw [hc0,c1];rfl
  have hwg:zcr s.data.toList=(zcd l).bind fun x=>if x.2= []then some x.1 else none:=by rw [hl];exact if_pos c1
  have HWG:=zzH hwg;clear hwg hc0 hcl c1;have hT:=hT w1 (by omega);rcases hw:zcd l with _|⟨t,l2⟩
  ·rw [hw]at hT HWG
   have HD:Hid (zcr s.data.toList=none):=HWG;clear HWG;unfold zo at hT;go_upto_region 4 with(go_at_call 62;refine hT.mono ?_;rintro e w2 ⟨rfl,hb2⟩);exact zz106
  rw [hw]at hT HWG;rw [zzq0]at HWG
  have hll:l2.length<=l.length:=by
   exact zz109
  go_upto_region 4 with(go_at_call 62;refine hT.mono ?_;rintro e w2 ⟨⟨so,c2,rfl,htm⟩,hb2⟩);exact zz105
def RdC (r:Nat) (l:List UInt8) (w:World):Prop:= ∃s:ByteArray,w.heap[r]?=some (.cells #[.string s] 42 (0,0))/\s.data.toList=l/\s.size<=68719476736
abbrev gaveUp:Ending:=.panicked [{v:=.iface 38 (.agg #[]),recovered:=false}]
def zga {α:Type} (r:Nat) (w:World) (val:α->Value) (d:Option (α × List UInt8)) (e:Ending) (w':World):Prop:=
 match d with
 |none=>e=gaveUp/\w.grownBy w' (some r)
 |some (v,l)=>e= .returned (val v)/\RdC r l w'/\w.grownBy w' (some r)
theorem RdC.lt {r:Nat} {l:List UInt8} {w:World} (h:RdC r l w):r<w.heap.size:=by obtain⟨s,h,-⟩:=h;exact zc h
theorem RdC.below {r:Nat} {l:List UInt8} {w w':World} (h:RdC r l w) (hb:Below w.heap.size w w'):RdC r l w':=by
 obtain⟨s,h1,h2⟩:=h;exact⟨s,(hb.block r (zc h1)).trans h1,h2⟩
theorem RdC.cells {r:Nat} {s:ByteArray} {w:World} (h:w.heap[r]?=some (.cells #[.string s] 42 (0,0))):w.cell? ⟨r,0,none⟩=some (.string s)/\w.frozen? ⟨r,0,none⟩=false:=
 ⟨zzq2 w r 0 _ _ _ h,zzq9 w r 0 _ _ h⟩
theorem RdC.len {r:Nat} {l:List UInt8} {w:World} (h:RdC r l w):l.length<=68719476736:=by
 obtain⟨s,h1,h2,h3⟩:=h;rw [<-h2,Array.length_toList];exact h3
theorem zrC (c:Nat) (h:c<256):bits .and .u8 (c:Int) 127=((c%128:Nat):Int):=by
 have h1:(BitVec.ofInt 8 (c:Int)).toNat=c:=by
  exact zz7
 show IntKind.u8.wrap ((BitVec.ofInt 8 (c:Int)&&&BitVec.ofInt 8 127).toNat:Int)=_;rw [BitVec.toNat_and,h1,show(BitVec.ofInt 8 127).toNat=2^7-1 from rfl,Nat.and_two_pow_sub_one_eq_mod,IntKind.wrap_u8];omega
theorem zky {acc c i:Nat} (ha:acc<128^i) (hc:c<128):acc+128^i*c<128^(i+1):=by
 have:128^i*(c+1)<=128^i*128:=Nat.mul_le_mul_left _ hc;rw [Nat.pow_succ];rw [Nat.mul_succ]at this;omega
theorem zqR {acc c i:Nat} (ha:acc<128^i) (hi:i<=5) (hc:c<256):bits .or .u64 (acc:Int) (IntKind.u64.wrap (IntKind.u64.wrap (bits .and .u8 (c:Int) 127)*2^(7*i)))=((acc+128^i*(c%128):Nat):Int):=by
 have h128:(128:Nat)^i=2^(7*i):=by rw [Nat.pow_mul]
 have hn:=zky ha (show c%128<128 by omega);have h6:128^(i+1)<=128^6:=Nat.pow_le_pow_right (by omega) (by omega);have e6:(128:Nat)^6=4398046511104:=by decide
 have e1:IntKind.u64.wrap (bits .and .u8 (c:Int) 127)=((c%128:Nat):Int):=by rw [zrC c hc,IntKind.wrap_u64];omega
 have e2:IntKind.u64.wrap (((c%128:Nat):Int)*2^(7*i))=((128^i*(c%128):Nat):Int):=by
  rw [show((c%128:Nat):Int)*2^(7*i)=((128^i*(c%128):Nat):Int)by rw [h128,Int.natCast_mul,Int.natCast_pow,Int.mul_comm];rfl,IntKind.wrap_u64];omega
 rw [e1,e2,bits_or_u64_nat _ _ (by omega) (by omega),Nat.or_comm,h128,<-Nat.two_pow_add_eq_or_of_lt (by rw [<-h128];exact ha),<-h128,Nat.add_comm]
theorem zbL (r:Nat) (l:List UInt8) (w:World) (h:RdC r l w):
  Calls Tryz.prog 12 #[.pointer (some ⟨r,0,none⟩)] w (zga r w (fun n:Nat=>Value.int .i64 n) (vD l)):=by
 generalize hQ:zga r w (fun n:Nat=>Value.int .i64 n) (vD l)=Q at *;have HQ:=zzH hQ;clear hQ;obtain⟨s,hr,hl,hs⟩:=h;obtain⟨c0,f0⟩:=RdC.cells hr;have hrl:=zc hr;have hlen:l.length=s.size:=by rw [<-hl,Array.length_toList];rfl
 go_in;go_wp2_with fail;obtain⟨mn,hmn,hm6,hms,hmo⟩: ∃mn:Nat,min (s.size:Int) 6=(mn:Int)/\mn<=6/\mn<=s.size/\(mn=6∨mn=s.size):=⟨min s.size 6,by omega,by omega,by omega,by omega⟩;rw [hmn];clear hmn;go_loop [3,12] (fun nv iv=> ∃(i acc:Nat),i<=mn/\iv= .int .i64 i/\nv= .int .u64 acc/\acc<128^i/\Hid (vD l=(vR (6-i) (decide (i=0)) (l.drop i)).bind fun x=>some (acc+128^i*x.1,x.2))) (fun _ iv=>mn-(intOf iv).toNat)
 case atStart=>exact⟨0,0,zzZ _,rfl,rfl,by decide,zzH (by
   show vR 6 true l=(vR 6 true l).bind _
   cases vR 6 true l with
   |none=>rfl
   |some x=>simp)⟩
 case round=>
  obtain⟨i,acc,hi,rfl,rfl,ha,HV⟩:=hrel;by_cases hlt:i<mn
  ·have his:i<s.size:=by omega
   have hcl:=(s[i]'his).toNat_lt
   have hdr:l.drop i=s[i]::l.drop (i+1):=by
    have hil:i<l.length:=by omega
    rw [List.drop_eq_getElem_cons hil];congr 1;subst hl;rw [Array.getElem_toList];rfl
   have HO:=zzH (zqR (c:=(s[i]'his).toNat) ha (show i<=5 by omega) hcl);have hk:6-i=(5-i)+1:=by omega
   have HV2:Hid (vD l=(vR ((5-i)+1) (decide (i=0)) (s[i]::l.drop (i+1))).bind fun x=>some (acc+128^i*x.1,x.2)):=zzH (by rw [HV.out,hdr,hk]);unfold vR at HV2;clear HV hdr hk;go_upto_region 7 with fail;rw [HO.out];generalize s[i].toNat=c at *;by_cases c1:c<128
   ·have d1:decide ((c:Int)<128)=true:=zzT (by omega)
    rw [if_pos c1]at HV2;have HM:Hid (((acc+128^i*(c%128):Nat):Int)=((acc+128^i*c:Nat):Int)):=zzH (by rw [Nat.mod_eq_of_lt c1]);rw [HM.out];by_cases c2:c=0/\decide (i=0)=false
    ·have HD:Hid (vD l=none):=zzH (by rw [HV2.out,if_pos c2];rfl)
     have d2:((c:Int)==0)=true:=by rw [beq_iff_eq];omega
     have d3:(i:Int)>0:=by have:=c2.2;have:=of_decide_eq_false this;omega
     clear hmo HV2 c2 HM HO;go_wp2_with fail;exact zz86
    ·have HD:Hid (vD l=some (acc+128^i*c,l.drop (i+1))):=zzH (by rw [HV2.out,if_neg c2];rfl)
     have hnb:acc+128^i*c<4398046511104:=by
      have h1:=zky ha c1;have:128^(i+1)<=128^6:=Nat.pow_le_pow_right (by omega) (by omega);have e6:(128:Nat)^6=4398046511104:=by decide
      omega
     have hx:(s.extract (i+1) s.size).data.toList=l.drop (i+1):=by
      exact zz112
     have HX:=zzH hx;have hsx:(s.extract (i+1) s.size).size<=68719476736:=by rw [ByteArray.size_extract];omega
     have HSX:=zzH hsx;have hw1:IntKind.i64.wrap ((i:Int)+1)=(i:Int)+1:=by rw [zzq3];omega
     clear hmo HV2 HM HO hx hsx hi;by_cases c3:c=0
     ·have d2:((c:Int)==0)=true:=by rw [beq_iff_eq];omega
      have d3: ¬(i:Int)>0:=by
       intro e;exact c2 ⟨c3,zzD (by omega)⟩
      exact zz111
     ·have d2:((c:Int)==0)=false:=zzB.2 (by omega)
      exact zz111
   ·have d1:decide ((c:Int)<128)=false:=zzD (by omega)
    rw [if_neg c1]at HV2;have HM:Hid (((acc+128^i*(c%128):Nat):Int)=((acc+128^i*(c-128):Nat):Int)):=zzH (by rw [show c%128=c-128 by omega]);rw [HM.out];have hn2:=zky ha (show c-128<128 by omega);have HN:=zzH hn2
    have HV3:Hid (vD l=(vR (6-(i+1)) (decide (i+1=0)) (l.drop (i+1))).bind fun x=>some ((acc+128^i*(c-128))+128^(i+1)*x.1,x.2)):=zzH (by
     rw [HV2.out,show 6-(i+1)=5-i by omega,show decide (i+1=0)=false from decide_eq_false (by omega)]
     cases vR (5-i) false (l.drop (i+1))with
     |none=>rfl
     |some x=>
      simp only [zzq0,Option.some.injEq,Prod.mk.injEq,and_true];rw [Nat.pow_succ,Nat.mul_add,Nat.mul_assoc,Nat.add_assoc])
    clear HV2 HM HO hn2 c1 hmo;generalize acc+128^i*(c-128)=nn at *;go_wp2_with fail;go_round
    case rel=>exact⟨i+1,nn,by omega,by go_num,rfl,HN.out,HV3⟩
    case measure=>simp [intOf];omega
  ·have HD:Hid (vD l=none):=zzH (by
    rw [HV.out];rcases hmo with h6|h6
    ·rw [show 6-i=0 by omega];rfl
    ·rw [List.drop_of_length_le (by omega)]
     cases 6-i<;>rfl)
   clear hmo HV;go_wp2_with fail;exact zz86
theorem zsx (n:Nat) (h:n<4398046511104):bits .and .i64 (n:Int) 3=((n%4:Nat):Int):=by
 have h1:=zhj n 3 (by omega) (by omega);rw [show((3:Nat):Int)=3 from rfl]at h1;rw [h1,show(3:Nat)=2^2-1 from rfl,Nat.and_two_pow_sub_one_eq_mod]
theorem RdC.off {r:Nat} {l:List UInt8} {X:Nat} {w w':World} (h:RdC r l w) (ho:OffB X w w') (hr:r≠X):RdC r l w':=by
 obtain⟨s,h1,h2⟩:=h;exact⟨s,(ho.2 r hr).trans h1,h2⟩
theorem zcE {l l2:List UInt8} {n:Nat} (h:vD l=some (n,l2)):n<4398046511104/\l2.length<=l.length:=by
 have e:=zfJ h;exact⟨e.2,by rw [e.1,zzq1];omega⟩
theorem zf3 (r:Nat) (l:List UInt8) (w:World) (h:RdC r l w):
  Calls Tryz.prog 11 #[.pointer (some ⟨r,0,none⟩)] w (zga r w Value.string (zcP l)):=by
 generalize hQ:zga r w Value.string (zcP l)=Q at *;have HQ:=zzH hQ;clear hQ;have HN:=zbL r l w h;have HD:Hid (zcP l=(vD l).bind fun x=>zci x.1 x.2):=zzH rfl;go_in;rcases h1:vD l with _|⟨n,l1⟩
 ·exact zz113
 rw [h1]at HN HD;rw [zzq0]at HD;have hn:=(zcE h1).1;go_upto_region 2 with(go_at_call 12;refine HN.mono ?_;rintro e w1 ⟨rfl,⟨s,hr,hl,hs⟩,hg1⟩);obtain⟨c0,f0⟩:=RdC.cells hr;have hrl:=zc hr;have hlen:l1.length=s.size:=by rw [<-hl,Array.length_toList];rfl
 by_cases c:n<=s.size
 case neg=>
  have HE:Hid (zcP l=none):=zzH (by rw [HD.out];exact if_neg (by show¬n<=l1.length;omega));have d1:(n:Int)>(s.size:Int):=by omega
  clear hlen c HD;go_wp2_with fail;exact⟨rfl,by rw [<-HQ.out,HE.out];exact⟨rfl,hg1⟩⟩
 have HE:Hid (zcP l=some (s.extract 0 n,l1.drop n)):=zzH (by
  rw [HD.out];show(if n<=l1.length then _ else _)=_;rw [if_pos (by omega)];congr 2;apply ByteArray.ext;apply Array.ext';rw [ByteArray.data_extract,Array.toList_extract,List.extract_eq_take_drop,hl];rfl)
 have hx:(s.extract n s.size).data.toList=l1.drop n:=by
  exact zz112
 have HX:=zzH hx;have hsx:(s.extract n s.size).size<=68719476736:=by rw [ByteArray.size_extract];omega
 have HSX:=zzH hsx;have d1: ¬(n:Int)>(s.size:Int):=by omega
 clear hx hsx HD hlen;go_wp2_with fail;rw [<-HQ.out,HE.out];exact⟨rfl,⟨_,zzS w1 r 0 _ _ _ hr,HX.out,HSX.out⟩,zh hg1 (zG _ _ _ _)⟩
theorem ziV (r:Nat) (l:List UInt8) (w:World) (h:RdC r l w):
  Calls Tryz.prog 32 #[.pointer (some ⟨r,0,none⟩)] w (zga r w Value.bool (zdL l)):=by
 generalize hQ:zga r w Value.bool (zdL l)=Q at *;have HQ:=zzH hQ;clear hQ;have HN:=zbL r l w h;have HD:Hid (zdL l=(vD l).bind fun x=>if x.1<=1 then some (decide (x.1=1),x.2)else none):=zzH rfl;go_in;rcases h1:vD l with _|⟨n,l1⟩
 ·exact zz113
 rw [h1]at HN HD;rw [zzq0]at HD;by_cases c:n<=1
 case neg=>
  rw [if_neg c]at HD;have d1:(n:Int)>1:=by omega
  go_wp2_with (go_at_call 12;refine HN.mono ?_;rintro e w1 ⟨rfl,hr,hg1⟩);exact⟨rfl,by rw [<-HQ.out,HD.out];exact⟨rfl,hg1⟩⟩
 rw [if_pos c]at HD;have d1: ¬(n:Int)>1:=by omega
 have HB:Hid (((n:Int)==1)=decide (n=1)):=zzH (by
  by_cases c2:n=1
  ·subst c2;rfl
  ·rw [decide_eq_false c2];exact zzB.2 (by omega))
 clear c;go_wp2_with (go_at_call 12;refine HN.mono ?_;rintro e w1 ⟨rfl,hr,hg1⟩);rw [<-HQ.out,HD.out];exact⟨congrArg (fun b=>Ending.returned (.bool b)) HB.out,hr,hg1⟩
theorem zgC (r:Nat) (l:List UInt8) (w:World) (h:RdC r l w):
  Calls Tryz.prog 34 #[.pointer (some ⟨r,0,none⟩)] w (zga r w (fun a:RArg=>Value.agg #[.int .i64 a.kind,.int .i64 a.n]) (zcl l)):=by
 generalize hQ:zga r w (fun a:RArg=>Value.agg #[.int .i64 a.kind,.int .i64 a.n]) (zcl l)=Q at *;have HQ:=zzH hQ;clear hQ;have hba:=(zzR w.heap.size w).alloc (zzL _) (.cells #[.int .i64 0,.int .i64 0] 59);have hx:=heap_alloc_new w (.cells #[.int .i64 0,.int .i64 0] 59);have HN:=zbL r l _ (h.below hba);have hgw:=zbf hba (some r);have hrl:=h.lt;have HD:Hid (zcl l=(vD l).bind fun x=>some (⟨((x.1%4:Nat):Int),((x.1/4:Nat):Int)⟩,x.2)):=zzH rfl;go_in;go_upto_region 1 with fail;generalize w.alloc _=w0 at *;rcases h1:vD l with _|⟨n,l1⟩
 ·rw [h1]at HN HD
  go_wp2_with (go_at_call 12;refine HN.mono ?_;rintro e w1 ⟨rfl,hg1⟩);exact⟨rfl,by rw [<-HQ.out,HD.out];exact⟨rfl,zh hgw hg1⟩⟩
 rw [h1]at HN HD;rw [zzq0]at HD;have hn:=(zcE h1).1;go_upto_region 2 with(go_at_call 12;refine HN.mono ?_;rintro e w1 ⟨rfl,hr,hg1⟩);have hx1:w1.heap[w.heap.size]?=_:=(hg1.block _ (zc hx) (fun e=>by have:=Option.some.inj e;omega)).trans hx
 have x0:w1.cell? ⟨w.heap.size,0,none⟩=some (.int .i64 0):=zzq2 w1 _ 0 _ _ _ hx1;have x1:w1.cell? ⟨w.heap.size,1,none⟩=some (.int .i64 0):=zzq2 w1 _ 1 _ _ _ hx1;have y0:w1.frozen? ⟨w.heap.size,0,none⟩=false:=zzq9 w1 _ 0 _ _ hx1;have y1:w1.frozen? ⟨w.heap.size,1,none⟩=false:=zzq9 w1 _ 1 _ _ hx1;go_wp2_with fail;have HA:=zzH (zsx n hn);rw [HA.out,show(n:Int)/4=((n/4:Nat):Int)by omega];have hres:((w1.setCell ⟨w.heap.size,0,none⟩ (.int .i64 ((n%4:Nat):Int))).setCell ⟨w.heap.size,1,none⟩ (.int .i64 ((n/4:Nat):Int))).heap[w.heap.size]?=some (.cells #[.int .i64 ((n%4:Nat):Int),.int .i64 ((n/4:Nat):Int)] 59 (0,0)):=zzS _ _ 1 _ _ _ (zzS _ _ 0 _ _ _ hx1)
 refine bodyPost_ret (results_cell_row rfl _ _ w.heap.size _ _ _ _ rfl hres Tryz.underlying59 rfl (by kernel_rfl)) rfl ?_;rw [<-HQ.out,HD.out];exact⟨rfl,(hr.off (OffB.set _ _ _ _) (by omega)).off (OffB.set _ _ _ _) (by omega),zC (zh hgw hg1) (((zzR _ _).setCell (p:=⟨w.heap.size,0,none⟩) (zzL _) _).setCell (p:=⟨w.heap.size,1,none⟩) (zzL _) _)⟩
structure Way (α:Type) where
 on:World->(Nat->Prop)->List Value->α->Prop
 keep: ∀{w w':World} {P P':Nat->Prop} {cs:List Value} {a:α},w.heap.size<=w'.heap.size->(∀b,P b->b<w.heap.size->w'.heap[b]?=w.heap[b]?)->(∀b,P b->b<w.heap.size->P' b)->on w P cs a->on w' P' cs a
theorem Way.below {α:Type} (E:Way α) {w w':World} {P:Nat->Prop} {cs:List Value} {a:α} (hb:Below w.heap.size w w') (h:E.on w P cs a):E.on w' P cs a:=E.keep hb.size (fun b _ hl=>hb.block b hl) (fun b h _=>h) h
def Way.pure {α:Type} (R:List Value->α->Prop):Way α:=⟨fun _ _=>R,fun _ _ _ h=>h⟩
def Way.tm:Way Tm:=⟨fun w P cs t=>TmIn w P 2000 cs t,fun hs hk hP h=>h.kept hs hk hP⟩
structure AccG {α:Type} (T:TypeId) (sz:Nat) (E:Way α) (B:Nat) (v:Value) (ts:List α) (w:World):Prop where
 own: ∃xs,w.ownsRow B T sz v ts.length xs/\RowsIn sz (E.on w (fun b=>B<=b/\v.ownBlock≠some b)) xs ts
section
variable {α:Type} {T:TypeId} {sz:Nat} {E:Way α} {B:Nat}
theorem AccG.nil (w:World):AccG T sz E B (.slice none 0 0) [] w:=⟨⟨[],World.ownsRow_nil _ _ _ _,rfl⟩⟩
theorem AccG.grown {r:Nat} {v:Value} {ts:List α} {w w':World} (h:AccG T sz E B v ts w) (hg:w.grownBy w' (some r)) (hr:r<B):AccG T sz E B v ts w':=by
 obtain⟨xs,ho,hR⟩:=h.own;exact⟨xs,ho.kept hg (.inr fun e=>by have:=(ho.lt r e).1;omega),hR.mono fun _ _ h=>E.keep hg.size (fun b hb hl=>hg.block b hl fun e=>by have:=Option.some.inj e;omega) (fun b hb _=>hb) h⟩
theorem AccG.below {v:Value} {ts:List α} {w w':World} (h:AccG T sz E B v ts w) (hb:Below w.heap.size w w'):AccG T sz E B v ts w':=by
 obtain⟨xs,ho,hR⟩:=h.own;exact⟨xs,ho.kept (zbf hb none) (by cases v.ownBlock<;>simp),hR.mono fun _ _ h=>E.below hb h⟩
theorem AccG.sl {v:Value} {ts:List α} {w:World} (h:AccG T sz E B v ts w): ∃ao c,v= .slice ao ts.length c/\SlIn w (B<= ·) sz (E.on w (B<= ·)) ao ts:=by
 obtain⟨xs,ho,hR⟩:=h.own;exact zjo ho (hR.mono fun _ _ h=>E.keep (zzL _) (fun _ _ _=>rfl) (fun b hb _=>hb.1) h)
theorem AccG.app {v v':Value} {ts:List α} {w0 w w':World} {xs cs:List Value} {t:α} (hlt: ∀k,v.ownBlock=some k->k<w0.heap.size) (hR:RowsIn sz (E.on w (fun b=>B<=b/\v.ownBlock≠some b)) xs ts)
  (ht:E.on w (w0.heap.size<= ·) cs t) (hcl:cs.length=sz) (hB:B<=w0.heap.size) (hg:w.grownBy w' v.ownBlock) (hat: ∀k,v'.ownBlock=some k->v.ownBlock=some k∨w.heap.size<=k) (ho':w'.ownsRow B T sz v' (ts.length+1) (xs++cs)):AccG T sz E B v' (ts++ [t]) w':=by
 have hne: ∀b,v.ownBlock≠some b->b<w.heap.size->v'.ownBlock≠some b:=fun b h1 h2 e=>by
  rcases hat b e with h|h
  ·exact h1 h
  ·omega
 refine⟨xs++cs,by rw [zzq1];exact ho',RowsIn.snoc hcl (E.keep hg.size (fun b hb hl=>hg.block b hl fun e=>by have:=hlt b e.symm;omega) (fun b hb hl=>⟨zzY hB hb,hne b (fun e=>by have:=hlt b e;omega) hl⟩) ht) (hR.mono fun _ _ h=>E.keep hg.size (fun b hb hl=>hg.block b hl fun e=>hb.2 e.symm) (fun b hb hl=>⟨hb.1,hne b hb.2 hl⟩) h)⟩
end
def zd1 {α:Type} (r:Nat) (w:World) (sz:Nat) (E:Way α) (d:Option (List α × List UInt8)) (e:Ending) (w':World):Prop:=
 match d with
 |none=>e=gaveUp/\w.grownBy w' (some r)
 |some (ts,l)=>(∃so c,e= .returned (.slice so ts.length c)/\SlIn w' (w.heap.size<= ·) sz (E.on w' (w.heap.size<= ·)) so ts)/\RdC r l w'/\w.grownBy w' (some r)
theorem zdH {α:Type} (one:Dec α) (n:Nat) (l:List UInt8):zb3 one (n+1) l=(one l).bind fun x=>(zb3 one n x.2).bind fun y=>some (x.1::y.1,y.2):=rfl
theorem SlIn.onKeep {α:Type} {w w':World} {P P':Nat->Prop} {sz:Nat} {E:Way α} {ao:Option Addr} {ts:List α} (h:SlIn w P sz (E.on w P) ao ts) (hs:w.heap.size<=w'.heap.size) (hk: ∀b,P b->b<w.heap.size->w'.heap[b]?=w.heap[b]?) (hP: ∀b,P b->b<w.heap.size->P' b):SlIn w' P' sz (E.on w' P') ao ts:=
 h.kept hs hk hP fun _ _ h=>E.keep hs hk hP h
theorem zjQ:(Tryz.prog.info? 59).map (fun i=>(i.zero,i.size,i.bytes))=some (some (.agg #[.int .i64 0,.int .i64 0]),2,16):=by kernel_rfl
def zli (r:Nat) (w:World) (d:Option (RArg × List UInt8)) (e:Ending) (w':World):Prop:=
 match d with
 |none=>e=gaveUp/\w.grownBy w' (some r)
 |some (x,l)=>(e= .returned (.agg #[.int .i64 x.kind,.int .i64 x.n])/\(Way.pure zdj).on w' (w.heap.size<= ·) (#[.int .i64 x.kind,.int .i64 x.n]).toList x)/\RdC r l w'/\w.grownBy w' (some r)
theorem zjS (r:Nat) (l0:List UInt8) (w:World) (HO: ∀(l:List UInt8) (wx:World),RdC r l wx->Calls Tryz.prog 34 #[.pointer (some ⟨r,0,none⟩)] wx (zli r wx (zcl l)))
  (HL: ∀l x l',zcl l=some (x,l')->l'.length<l.length) (h:RdC r l0 w):
  Calls Tryz.prog 35 #[.pointer (some ⟨r,0,none⟩),.func (.func 34) #[.pointer (some ⟨r,0,none⟩)] #[]] w (zd1 r w 2 (Way.pure zdj) (zbh zcl l0)):=by
 generalize hQ:zd1 r w 2 (Way.pure zdj) (zbh zcl l0)=Q at *;have HQ:=zzH hQ;clear hQ;have HOO:=zzH HO;have HLL:=zzH HL;clear HO HL;have HN:=zbL r l0 w h;have HD:Hid (zbh zcl l0=(vD l0).bind fun x=>zb3 zcl x.1 x.2):=zzH rfl;have hrw:=h.lt;have hlen0:=h.len;go_in;rcases h1:vD l0 with _|⟨n,l1⟩
 ·exact zz113
 rw [h1]at HN HD;rw [zzq0]at HD;have hn:=zcE h1;go_wp2_with (go_at_call 12;refine HN.mono ?_;rintro e w1 ⟨rfl,hr1,hg1⟩);go_loopw [6,5] (fun nv lv wr=> ∃(k:Nat) (l:List UInt8) (ts:List RArg),nv= .int .i64 k/\k+ts.length=n/\ts.length+l.length<=l0.length/\Hid (zbh zcl l0=(zb3 zcl k l).bind fun y=>some (ts++y.1,y.2))/\RdC r l wr/\AccG 59 2 (Way.pure zdj) w.heap.size lv ts wr/\w.grownBy wr (some r)) (fun nv _ _=>(intOf nv).toNat)
 case atStart=>exact⟨n,l1,[],rfl,rfl,by simp;omega,zzH (by rw [HD.out];cases zb3 zcl n l1<;>rfl),hr1,AccG.nil _,hg1⟩
 case round=>
  obtain⟨k,l,ts,rfl,hk,hll,HI,hrd,hacc,hg⟩:=hrel
  cases k with
  |zero=>
   exact zz114
  |succ k=>
   obtain⟨ao,cap0,rfl,-⟩:=hacc.sl;have hpos:((k+1:Nat):Int)>0:=by omega
   have HT:=HOO.out l wr hrd;rcases h2:zcl l with _|⟨x,l2⟩
   ·rw [h2]at HT
    go_wp2_with (go_at_call 34;refine HT.mono ?_;rintro e w2 ⟨rfl,hg2⟩);exact zz116
   rw [h2]at HT;have hlt:=HLL.out l x l2 h2;obtain⟨i0,hi,hz0,hz1,hz2⟩:=info_parts zjQ
   go_wp2_with (first
    |(go_at_call 34;refine HT.mono ?_;rintro e w2 ⟨⟨rfl,hval⟩,hr2,hg2⟩;obtain⟨xs,ho,hR⟩:=((hacc.grown hg2 hrw).below ((zzR _ _).alloc (zzL _) (.cells #[.int .i64 x.kind,.int .i64 x.n] 59))).own)
    |(at_builtin;refine wpList_append_lies _ rfl (.tmp 13) (.tmp 16) 60 rfl w.heap.size 59 i0 _ 2 16 Tryz.underlying60 hi hz0 hz1 hz2 rfl (by decide) _ ts.length xs rfl ho ⟨w2.heap.size,0,none⟩ 1 1 (#[.int .i64 x.kind,.int .i64 x.n]).toList rfl rfl (World.news_of_block (heap_alloc_new _ _)) (by simp [Value.oneCell']) (by decide) (by unfold maxLen;omega) (by omega) (by have:=hg.size;have:=hg2.size;simp;omega) _ rfl ?_;intro g cap w3 ho3 hg3 hat hlt3))
   have ho0: ∀k,(Value.slice ao ts.length cap0).ownBlock=some k->w.heap.size<=k/\k<wr.heap.size:=by
    exact zz87
   have hb1:=(zzR w2.heap.size w2).alloc (zzL _) (.cells #[.int .i64 x.kind,.int .i64 x.n] 59)
   have hacc2:AccG 59 2 (Way.pure zdj) w.heap.size (.slice (some ⟨g,0,none⟩) (ts.length+1) cap) (ts++ [x]) w3:=
    AccG.app (fun k e=>(ho0 k e).2) hR (Way.below _ hb1 hval) rfl hg.size hg3 (fun k e=>by
     have e:g=k:=Option.some.inj e;subst e;exact hat.imp id fun h=>Nat.le_of_eq h.symm) ho3
   have hr3:RdC r l2 w3:=by
    exact zz115
   have hgw:w.grownBy w3 (some r):=zcF (zC (zh hg hg2) (hb1.mono (zzY hg.size hg2.size))) hg3 (fun k e=>(ho0 k e).1);go_wp2_with fail;go_roundw
   case rel=>exact⟨k,l2,ts++ [x],by go_num,by rw [zzq1];simp;omega,by rw [zzq1];simp;omega,zzH (by
    rw [HI.out,zdH,h2,zzq0]
    cases zb3 zcl k l2 with
    |none=>rfl
    |some y=>simp only [zzX5]),hr3,hacc2,hgw⟩
   case measure=>simp [intOf]
theorem zjj:(Tryz.prog.info? 94).map (fun i=>(i.zero,i.size,i.bytes))=some (some (.agg #[.int .i64 0,.int .i64 0]),2,16):=by kernel_rfl
def zhC (r:Nat) (w:World) (d:Option (RCase × List UInt8)) (e:Ending) (w':World):Prop:=
 match d with
 |none=>e=gaveUp/\w.grownBy w' (some r)
 |some (x,l)=>(e= .returned (.agg #[.int .i64 x.lit,.int .i64 x.to])/\(Way.pure zcR).on w' (w.heap.size<= ·) (#[.int .i64 x.lit,.int .i64 x.to]).toList x)/\RdC r l w'/\w.grownBy w' (some r)
theorem zjs (r:Nat) (l0:List UInt8) (w:World) (HO: ∀(l:List UInt8) (wx:World),RdC r l wx->Calls Tryz.prog 37 #[.pointer (some ⟨r,0,none⟩)] wx (zhC r wx (zcS l)))
  (HL: ∀l x l',zcS l=some (x,l')->l'.length<l.length) (h:RdC r l0 w):
  Calls Tryz.prog 36 #[.pointer (some ⟨r,0,none⟩),.func (.func 37) #[.pointer (some ⟨r,0,none⟩)] #[]] w (zd1 r w 2 (Way.pure zcR) (zbh zcS l0)):=by
 generalize hQ:zd1 r w 2 (Way.pure zcR) (zbh zcS l0)=Q at *;have HQ:=zzH hQ;clear hQ;have HOO:=zzH HO;have HLL:=zzH HL;clear HO HL;have HN:=zbL r l0 w h;have HD:Hid (zbh zcS l0=(vD l0).bind fun x=>zb3 zcS x.1 x.2):=zzH rfl;have hrw:=h.lt;have hlen0:=h.len;go_in;rcases h1:vD l0 with _|⟨n,l1⟩
 ·exact zz113
 rw [h1]at HN HD;rw [zzq0]at HD;have hn:=zcE h1;go_wp2_with (go_at_call 12;refine HN.mono ?_;rintro e w1 ⟨rfl,hr1,hg1⟩);go_loopw [6,5] (fun nv lv wr=> ∃(k:Nat) (l:List UInt8) (ts:List RCase),nv= .int .i64 k/\k+ts.length=n/\ts.length+l.length<=l0.length/\Hid (zbh zcS l0=(zb3 zcS k l).bind fun y=>some (ts++y.1,y.2))/\RdC r l wr/\AccG 94 2 (Way.pure zcR) w.heap.size lv ts wr/\w.grownBy wr (some r)) (fun nv _ _=>(intOf nv).toNat)
 case atStart=>exact⟨n,l1,[],rfl,rfl,by simp;omega,zzH (by rw [HD.out];cases zb3 zcS n l1<;>rfl),hr1,AccG.nil _,hg1⟩
 case round=>
  obtain⟨k,l,ts,rfl,hk,hll,HI,hrd,hacc,hg⟩:=hrel
  cases k with
  |zero=>
   exact zz114
  |succ k=>
   obtain⟨ao,cap0,rfl,-⟩:=hacc.sl;have hpos:((k+1:Nat):Int)>0:=by omega
   have HT:=HOO.out l wr hrd;rcases h2:zcS l with _|⟨x,l2⟩
   ·rw [h2]at HT
    go_wp2_with (go_at_call 37;refine HT.mono ?_;rintro e w2 ⟨rfl,hg2⟩);exact zz116
   rw [h2]at HT;have hlt:=HLL.out l x l2 h2;obtain⟨i0,hi,hz0,hz1,hz2⟩:=info_parts zjj
   go_wp2_with (first
    |(go_at_call 37;refine HT.mono ?_;rintro e w2 ⟨⟨rfl,hval⟩,hr2,hg2⟩;obtain⟨xs,ho,hR⟩:=((hacc.grown hg2 hrw).below ((zzR _ _).alloc (zzL _) (.cells #[.int .i64 x.lit,.int .i64 x.to] 94))).own)
    |(at_builtin;refine wpList_append_lies _ rfl (.tmp 13) (.tmp 16) 61 rfl w.heap.size 94 i0 _ 2 16 Tryz.underlying61 hi hz0 hz1 hz2 rfl (by decide) _ ts.length xs rfl ho ⟨w2.heap.size,0,none⟩ 1 1 (#[.int .i64 x.lit,.int .i64 x.to]).toList rfl rfl (World.news_of_block (heap_alloc_new _ _)) (by simp [Value.oneCell']) (by decide) (by unfold maxLen;omega) (by omega) (by have:=hg.size;have:=hg2.size;simp;omega) _ rfl ?_;intro g cap w3 ho3 hg3 hat hlt3))
   have ho0: ∀k,(Value.slice ao ts.length cap0).ownBlock=some k->w.heap.size<=k/\k<wr.heap.size:=by
    exact zz87
   have hb1:=(zzR w2.heap.size w2).alloc (zzL _) (.cells #[.int .i64 x.lit,.int .i64 x.to] 94)
   have hacc2:AccG 94 2 (Way.pure zcR) w.heap.size (.slice (some ⟨g,0,none⟩) (ts.length+1) cap) (ts++ [x]) w3:=
    AccG.app (fun k e=>(ho0 k e).2) hR (Way.below _ hb1 hval) rfl hg.size hg3 (fun k e=>by
     have e:g=k:=Option.some.inj e;subst e;exact hat.imp id fun h=>Nat.le_of_eq h.symm) ho3
   have hr3:RdC r l2 w3:=by
    exact zz115
   have hgw:w.grownBy w3 (some r):=zcF (zC (zh hg hg2) (hb1.mono (zzY hg.size hg2.size))) hg3 (fun k e=>(ho0 k e).1);go_wp2_with fail;go_roundw
   case rel=>exact⟨k,l2,ts++ [x],by go_num,by rw [zzq1];simp;omega,by rw [zzq1];simp;omega,zzH (by
    rw [HI.out,zdH,h2,zzq0]
    cases zb3 zcS k l2 with
    |none=>rfl
    |some y=>simp only [zzX5]),hr3,hacc2,hgw⟩
   case measure=>simp [intOf]
theorem zjF:(Tryz.prog.info? 98).map (fun i=>(i.zero,i.size,i.bytes))=some (some (.agg #[.int .i64 0,.int .i64 0,.int .i64 0,.int .i64 0,.int .i64 0,.bool false]),6,48):=by kernel_rfl
def ziu (r:Nat) (w:World) (d:Option (RSeg × List UInt8)) (e:Ending) (w':World):Prop:=
 match d with
 |none=>e=gaveUp/\w.grownBy w' (some r)
 |some (x,l)=>(e= .returned (.agg #[.int .i64 x.type,.int .i64 x.val.kind,.int .i64 x.val.n,.int .i64 x.size.kind,.int .i64 x.size.n,.bool x.little])/\(Way.pure zdk).on w' (w.heap.size<= ·) (#[.int .i64 x.type,.int .i64 x.val.kind,.int .i64 x.val.n,.int .i64 x.size.kind,.int .i64 x.size.n,.bool x.little]).toList x)/\RdC r l w'/\w.grownBy w' (some r)
theorem zko (r:Nat) (l0:List UInt8) (w:World) (HO: ∀(l:List UInt8) (wx:World),RdC r l wx->Calls Tryz.prog 39 #[.pointer (some ⟨r,0,none⟩)] wx (ziu r wx (zdw l)))
  (HL: ∀l x l',zdw l=some (x,l')->l'.length<l.length) (h:RdC r l0 w):
  Calls Tryz.prog 38 #[.pointer (some ⟨r,0,none⟩),.func (.func 39) #[.pointer (some ⟨r,0,none⟩)] #[]] w (zd1 r w 6 (Way.pure zdk) (zbh zdw l0)):=by
 generalize hQ:zd1 r w 6 (Way.pure zdk) (zbh zdw l0)=Q at *;have HQ:=zzH hQ;clear hQ;have HOO:=zzH HO;have HLL:=zzH HL;clear HO HL;have HN:=zbL r l0 w h;have HD:Hid (zbh zdw l0=(vD l0).bind fun x=>zb3 zdw x.1 x.2):=zzH rfl;have hrw:=h.lt;have hlen0:=h.len;go_in;rcases h1:vD l0 with _|⟨n,l1⟩
 ·exact zz113
 rw [h1]at HN HD;rw [zzq0]at HD;have hn:=zcE h1;go_wp2_with (go_at_call 12;refine HN.mono ?_;rintro e w1 ⟨rfl,hr1,hg1⟩);go_loopw [6,5] (fun nv lv wr=> ∃(k:Nat) (l:List UInt8) (ts:List RSeg),nv= .int .i64 k/\k+ts.length=n/\ts.length+l.length<=l0.length/\Hid (zbh zdw l0=(zb3 zdw k l).bind fun y=>some (ts++y.1,y.2))/\RdC r l wr/\AccG 98 6 (Way.pure zdk) w.heap.size lv ts wr/\w.grownBy wr (some r)) (fun nv _ _=>(intOf nv).toNat)
 case atStart=>exact⟨n,l1,[],rfl,rfl,by simp;omega,zzH (by rw [HD.out];cases zb3 zdw n l1<;>rfl),hr1,AccG.nil _,hg1⟩
 case round=>
  obtain⟨k,l,ts,rfl,hk,hll,HI,hrd,hacc,hg⟩:=hrel
  cases k with
  |zero=>
   exact zz114
  |succ k=>
   obtain⟨ao,cap0,rfl,-⟩:=hacc.sl;have hpos:((k+1:Nat):Int)>0:=by omega
   have HT:=HOO.out l wr hrd;rcases h2:zdw l with _|⟨x,l2⟩
   ·rw [h2]at HT
    go_wp2_with (go_at_call 39;refine HT.mono ?_;rintro e w2 ⟨rfl,hg2⟩);exact zz116
   rw [h2]at HT;have hlt:=HLL.out l x l2 h2;obtain⟨i0,hi,hz0,hz1,hz2⟩:=info_parts zjF
   go_wp2_with (first
    |(go_at_call 39;refine HT.mono ?_;rintro e w2 ⟨⟨rfl,hval⟩,hr2,hg2⟩;obtain⟨xs,ho,hR⟩:=((hacc.grown hg2 hrw).below ((zzR _ _).alloc (zzL _) (.cells #[.int .i64 x.type,.int .i64 x.val.kind,.int .i64 x.val.n,.int .i64 x.size.kind,.int .i64 x.size.n,.bool x.little] 98))).own)
    |(at_builtin;refine wpList_append_lies _ rfl (.tmp 13) (.tmp 16) 62 rfl w.heap.size 98 i0 _ 6 48 Tryz.underlying62 hi hz0 hz1 hz2 rfl (by decide) _ ts.length xs rfl ho ⟨w2.heap.size,0,none⟩ 1 1 (#[.int .i64 x.type,.int .i64 x.val.kind,.int .i64 x.val.n,.int .i64 x.size.kind,.int .i64 x.size.n,.bool x.little]).toList rfl rfl (World.news_of_block (heap_alloc_new _ _)) (by simp [Value.oneCell']) (by decide) (by unfold maxLen;omega) (by omega) (by have:=hg.size;have:=hg2.size;simp;omega) _ rfl ?_;intro g cap w3 ho3 hg3 hat hlt3))
   have ho0: ∀k,(Value.slice ao ts.length cap0).ownBlock=some k->w.heap.size<=k/\k<wr.heap.size:=by
    exact zz87
   have hb1:=(zzR w2.heap.size w2).alloc (zzL _) (.cells #[.int .i64 x.type,.int .i64 x.val.kind,.int .i64 x.val.n,.int .i64 x.size.kind,.int .i64 x.size.n,.bool x.little] 98)
   have hacc2:AccG 98 6 (Way.pure zdk) w.heap.size (.slice (some ⟨g,0,none⟩) (ts.length+1) cap) (ts++ [x]) w3:=
    AccG.app (fun k e=>(ho0 k e).2) hR (Way.below _ hb1 hval) rfl hg.size hg3 (fun k e=>by
     have e:g=k:=Option.some.inj e;subst e;exact hat.imp id fun h=>Nat.le_of_eq h.symm) ho3
   have hr3:RdC r l2 w3:=by
    exact zz115
   have hgw:w.grownBy w3 (some r):=zcF (zC (zh hg hg2) (hb1.mono (zzY hg.size hg2.size))) hg3 (fun k e=>(ho0 k e).1);go_wp2_with fail;go_roundw
   case rel=>exact⟨k,l2,ts++ [x],by go_num,by rw [zzq1];simp;omega,by rw [zzq1];simp;omega,zzH (by
    rw [HI.out,zdH,h2,zzq0]
    cases zb3 zdw k l2 with
    |none=>rfl
    |some y=>simp only [zzX5]),hr3,hacc2,hgw⟩
   case measure=>simp [intOf]
theorem zjm:(Tryz.prog.info? 51).map (fun i=>(i.zero,i.size,i.bytes))=some (some (.agg #[.string ⟨#[]⟩,.int .i64 0,.bool false,.int .i64 0]),4,40):=by kernel_rfl
def zhF (r:Nat) (w:World) (d:Option (RFunc × List UInt8)) (e:Ending) (w':World):Prop:=
 match d with
 |none=>e=gaveUp/\w.grownBy w' (some r)
 |some (x,l)=>(e= .returned (.agg #[.string x.name,.int .i64 x.arity,.bool x.pub,.int .i64 x.entry])/\(Way.pure zc7).on w' (w.heap.size<= ·) (#[.string x.name,.int .i64 x.arity,.bool x.pub,.int .i64 x.entry]).toList x)/\RdC r l w'/\w.grownBy w' (some r)
theorem zjv (r:Nat) (l0:List UInt8) (w:World) (HO: ∀(l:List UInt8) (wx:World),RdC r l wx->Calls Tryz.prog 16 #[.pointer (some ⟨r,0,none⟩)] wx (zhF r wx (zcU l)))
  (HL: ∀l x l',zcU l=some (x,l')->l'.length<l.length) (h:RdC r l0 w):
  Calls Tryz.prog 15 #[.pointer (some ⟨r,0,none⟩),.func (.func 16) #[.pointer (some ⟨r,0,none⟩)] #[]] w (zd1 r w 4 (Way.pure zc7) (zbh zcU l0)):=by
 generalize hQ:zd1 r w 4 (Way.pure zc7) (zbh zcU l0)=Q at *;have HQ:=zzH hQ;clear hQ;have HOO:=zzH HO;have HLL:=zzH HL;clear HO HL;have HN:=zbL r l0 w h;have HD:Hid (zbh zcU l0=(vD l0).bind fun x=>zb3 zcU x.1 x.2):=zzH rfl;have hrw:=h.lt;have hlen0:=h.len;go_in;rcases h1:vD l0 with _|⟨n,l1⟩
 ·exact zz113
 rw [h1]at HN HD;rw [zzq0]at HD;have hn:=zcE h1;go_wp2_with (go_at_call 12;refine HN.mono ?_;rintro e w1 ⟨rfl,hr1,hg1⟩);go_loopw [6,5] (fun nv lv wr=> ∃(k:Nat) (l:List UInt8) (ts:List RFunc),nv= .int .i64 k/\k+ts.length=n/\ts.length+l.length<=l0.length/\Hid (zbh zcU l0=(zb3 zcU k l).bind fun y=>some (ts++y.1,y.2))/\RdC r l wr/\AccG 51 4 (Way.pure zc7) w.heap.size lv ts wr/\w.grownBy wr (some r)) (fun nv _ _=>(intOf nv).toNat)
 case atStart=>exact⟨n,l1,[],rfl,rfl,by simp;omega,zzH (by rw [HD.out];cases zb3 zcU n l1<;>rfl),hr1,AccG.nil _,hg1⟩
 case round=>
  obtain⟨k,l,ts,rfl,hk,hll,HI,hrd,hacc,hg⟩:=hrel
  cases k with
  |zero=>
   exact zz114
  |succ k=>
   obtain⟨ao,cap0,rfl,-⟩:=hacc.sl;have hpos:((k+1:Nat):Int)>0:=by omega
   have HT:=HOO.out l wr hrd;rcases h2:zcU l with _|⟨x,l2⟩
   ·rw [h2]at HT
    go_wp2_with (go_at_call 16;refine HT.mono ?_;rintro e w2 ⟨rfl,hg2⟩);exact zz116
   rw [h2]at HT;have hlt:=HLL.out l x l2 h2;obtain⟨i0,hi,hz0,hz1,hz2⟩:=info_parts zjm
   go_wp2_with (first
    |(go_at_call 16;refine HT.mono ?_;rintro e w2 ⟨⟨rfl,hval⟩,hr2,hg2⟩;obtain⟨xs,ho,hR⟩:=((hacc.grown hg2 hrw).below ((zzR _ _).alloc (zzL _) (.cells #[.string x.name,.int .i64 x.arity,.bool x.pub,.int .i64 x.entry] 51))).own)
    |(at_builtin;refine wpList_append_lies _ rfl (.tmp 13) (.tmp 16) 24 rfl w.heap.size 51 i0 _ 4 40 Tryz.underlying24 hi hz0 hz1 hz2 rfl (by decide) _ ts.length xs rfl ho ⟨w2.heap.size,0,none⟩ 1 1 (#[.string x.name,.int .i64 x.arity,.bool x.pub,.int .i64 x.entry]).toList rfl rfl (World.news_of_block (heap_alloc_new _ _)) (by simp [Value.oneCell']) (by decide) (by unfold maxLen;omega) (by omega) (by have:=hg.size;have:=hg2.size;simp;omega) _ rfl ?_;intro g cap w3 ho3 hg3 hat hlt3))
   have ho0: ∀k,(Value.slice ao ts.length cap0).ownBlock=some k->w.heap.size<=k/\k<wr.heap.size:=by
    exact zz87
   have hb1:=(zzR w2.heap.size w2).alloc (zzL _) (.cells #[.string x.name,.int .i64 x.arity,.bool x.pub,.int .i64 x.entry] 51)
   have hacc2:AccG 51 4 (Way.pure zc7) w.heap.size (.slice (some ⟨g,0,none⟩) (ts.length+1) cap) (ts++ [x]) w3:=
    AccG.app (fun k e=>(ho0 k e).2) hR (Way.below _ hb1 hval) rfl hg.size hg3 (fun k e=>by
     have e:g=k:=Option.some.inj e;subst e;exact hat.imp id fun h=>Nat.le_of_eq h.symm) ho3
   have hr3:RdC r l2 w3:=by
    exact zz115
   have hgw:w.grownBy w3 (some r):=zcF (zC (zh hg hg2) (hb1.mono (zzY hg.size hg2.size))) hg3 (fun k e=>(ho0 k e).1);go_wp2_with fail;go_roundw
   case rel=>exact⟨k,l2,ts++ [x],by go_num,by rw [zzq1];simp;omega,by rw [zzq1];simp;omega,zzH (by
    rw [HI.out,zdH,h2,zzq0]
    cases zb3 zcU k l2 with
    |none=>rfl
    |some y=>simp only [zzX5]),hr3,hacc2,hgw⟩
   case measure=>simp [intOf]
theorem zjJ:(Tryz.prog.info? 55).map (fun i=>(i.zero,i.size,i.bytes))=some (some (.agg #[.int .i64 0,.int .i64 0,.int .i64 0]),3,24):=by kernel_rfl
def zis (r:Nat) (w:World) (d:Option (RFun × List UInt8)) (e:Ending) (w':World):Prop:=
 match d with
 |none=>e=gaveUp/\w.grownBy w' (some r)
 |some (x,l)=>(e= .returned (.agg #[.int .i64 x.arity,.int .i64 x.free,.int .i64 x.entry])/\(Way.pure zbB).on w' (w.heap.size<= ·) (#[.int .i64 x.arity,.int .i64 x.free,.int .i64 x.entry]).toList x)/\RdC r l w'/\w.grownBy w' (some r)
theorem zjN (r:Nat) (l0:List UInt8) (w:World) (HO: ∀(l:List UInt8) (wx:World),RdC r l wx->Calls Tryz.prog 18 #[.pointer (some ⟨r,0,none⟩)] wx (zis r wx (fnD l)))
  (HL: ∀l x l',fnD l=some (x,l')->l'.length<l.length) (h:RdC r l0 w):
  Calls Tryz.prog 17 #[.pointer (some ⟨r,0,none⟩),.func (.func 18) #[.pointer (some ⟨r,0,none⟩)] #[]] w (zd1 r w 3 (Way.pure zbB) (zbh fnD l0)):=by
 generalize hQ:zd1 r w 3 (Way.pure zbB) (zbh fnD l0)=Q at *;have HQ:=zzH hQ;clear hQ;have HOO:=zzH HO;have HLL:=zzH HL;clear HO HL;have HN:=zbL r l0 w h;have HD:Hid (zbh fnD l0=(vD l0).bind fun x=>zb3 fnD x.1 x.2):=zzH rfl;have hrw:=h.lt;have hlen0:=h.len;go_in;rcases h1:vD l0 with _|⟨n,l1⟩
 ·exact zz113
 rw [h1]at HN HD;rw [zzq0]at HD;have hn:=zcE h1;go_wp2_with (go_at_call 12;refine HN.mono ?_;rintro e w1 ⟨rfl,hr1,hg1⟩);go_loopw [6,5] (fun nv lv wr=> ∃(k:Nat) (l:List UInt8) (ts:List RFun),nv= .int .i64 k/\k+ts.length=n/\ts.length+l.length<=l0.length/\Hid (zbh fnD l0=(zb3 fnD k l).bind fun y=>some (ts++y.1,y.2))/\RdC r l wr/\AccG 55 3 (Way.pure zbB) w.heap.size lv ts wr/\w.grownBy wr (some r)) (fun nv _ _=>(intOf nv).toNat)
 case atStart=>exact⟨n,l1,[],rfl,rfl,by simp;omega,zzH (by rw [HD.out];cases zb3 fnD n l1<;>rfl),hr1,AccG.nil _,hg1⟩
 case round=>
  obtain⟨k,l,ts,rfl,hk,hll,HI,hrd,hacc,hg⟩:=hrel
  cases k with
  |zero=>
   exact zz114
  |succ k=>
   obtain⟨ao,cap0,rfl,-⟩:=hacc.sl;have hpos:((k+1:Nat):Int)>0:=by omega
   have HT:=HOO.out l wr hrd;rcases h2:fnD l with _|⟨x,l2⟩
   ·rw [h2]at HT
    go_wp2_with (go_at_call 18;refine HT.mono ?_;rintro e w2 ⟨rfl,hg2⟩);exact zz116
   rw [h2]at HT;have hlt:=HLL.out l x l2 h2;obtain⟨i0,hi,hz0,hz1,hz2⟩:=info_parts zjJ
   go_wp2_with (first
    |(go_at_call 18;refine HT.mono ?_;rintro e w2 ⟨⟨rfl,hval⟩,hr2,hg2⟩;obtain⟨xs,ho,hR⟩:=((hacc.grown hg2 hrw).below ((zzR _ _).alloc (zzL _) (.cells #[.int .i64 x.arity,.int .i64 x.free,.int .i64 x.entry] 55))).own)
    |(at_builtin;refine wpList_append_lies _ rfl (.tmp 13) (.tmp 16) 25 rfl w.heap.size 55 i0 _ 3 24 Tryz.underlying25 hi hz0 hz1 hz2 rfl (by decide) _ ts.length xs rfl ho ⟨w2.heap.size,0,none⟩ 1 1 (#[.int .i64 x.arity,.int .i64 x.free,.int .i64 x.entry]).toList rfl rfl (World.news_of_block (heap_alloc_new _ _)) (by simp [Value.oneCell']) (by decide) (by unfold maxLen;omega) (by omega) (by have:=hg.size;have:=hg2.size;simp;omega) _ rfl ?_;intro g cap w3 ho3 hg3 hat hlt3))
   have ho0: ∀k,(Value.slice ao ts.length cap0).ownBlock=some k->w.heap.size<=k/\k<wr.heap.size:=by
    exact zz87
   have hb1:=(zzR w2.heap.size w2).alloc (zzL _) (.cells #[.int .i64 x.arity,.int .i64 x.free,.int .i64 x.entry] 55)
   have hacc2:AccG 55 3 (Way.pure zbB) w.heap.size (.slice (some ⟨g,0,none⟩) (ts.length+1) cap) (ts++ [x]) w3:=
    AccG.app (fun k e=>(ho0 k e).2) hR (Way.below _ hb1 hval) rfl hg.size hg3 (fun k e=>by
     have e:g=k:=Option.some.inj e;subst e;exact hat.imp id fun h=>Nat.le_of_eq h.symm) ho3
   have hr3:RdC r l2 w3:=by
    exact zz115
   have hgw:w.grownBy w3 (some r):=zcF (zC (zh hg hg2) (hb1.mono (zzY hg.size hg2.size))) hg3 (fun k e=>(ho0 k e).1);go_wp2_with fail;go_roundw
   case rel=>exact⟨k,l2,ts++ [x],by go_num,by rw [zzq1];simp;omega,by rw [zzq1];simp;omega,zzH (by
    rw [HI.out,zdH,h2,zzq0]
    cases zb3 fnD k l2 with
    |none=>rfl
    |some y=>simp only [zzX5]),hr3,hacc2,hgw⟩
   case measure=>simp [intOf]
theorem zg4 {n:Nat} (h:n<4398046511104):I64 (n:Int):=by unfold I64;omega
theorem zpd {l l':List UInt8} {a:ByteArray} (h:zcP l=some (a,l')):a.size<=maxLen:=by have:=(zfr h).2;unfold maxLen;omega
theorem ze9 {l l':List UInt8} {a:RArg} (h:zcl l=some (a,l')):I64 a.kind/\I64 a.n:=by have:=ze6 h;unfold I64;omega
structure KSt (w0:World) (r:Nat) (l:List UInt8) (X:Nat) (o:Obj) (wx:World):Prop where
 rd:RdC r l wx
 gr:w0.grownBy wx (some r)
 x:wx.heap[X]?=some o
 hr:r<w0.heap.size
 hX:X=w0.heap.size
theorem KSt.start {r:Nat} {l:List UInt8} {w:World} (h:RdC r l w) (o:Obj):KSt w r l w.heap.size o (w.alloc o):=
 ⟨h.below ((zzR _ _).alloc (zzL _) _),zbf ((zzR _ _).alloc (zzL _) _) _,heap_alloc_new _ _,h.lt,rfl⟩
theorem KSt.call {w0:World} {r:Nat} {l:List UInt8} {X:Nat} {o:Obj} {wx wy:World} (h:KSt w0 r l X o wx) {l':List UInt8} (hr:RdC r l' wy) (hg:wx.grownBy wy (some r)):KSt w0 r l' X o wy:=
 ⟨hr,zh h.gr hg,zbX hg h.hr (Nat.le_of_eq h.hX.symm) h.x,h.hr,h.hX⟩
theorem KSt.off {w0:World} {r:Nat} {l:List UInt8} {X:Nat} {o:Obj} {wx wy:World} (h:KSt w0 r l X o wx) (ho:OffB X wx wy) (hb:Below X wx wy):RdC r l wy/\w0.grownBy wy (some r):=by
 have hX:=h.hX;have hr:=h.hr;exact⟨h.rd.off ho (by omega),zC h.gr (by rw [<-hX];exact hb)⟩
theorem zns (r:Nat) (l:List UInt8) (w:World) (h:RdC r l w):
  Calls Tryz.prog 37 #[.pointer (some ⟨r,0,none⟩)] w (zhC r w (zcS l)):=by
 generalize hQ:zhC r w (zcS l)=Q at *;have HQ:=zzH hQ;clear hQ;have S0:=KSt.start h (.cells #[.int .i64 0,.int .i64 0] 94);have HD:Hid (zcS l=(zbx l).bind fun x=>(zbx x.2).bind fun y=>some (⟨x.1,y.1⟩,y.2)):=zzH rfl;go_in;go_upto_region 1 with fail;generalize w.alloc _=w0 at *;have H1:=zbL r l _ S0.rd;rcases h1:vD l with _|⟨a,l1⟩
 ·exact zz118
 rw [h1]at H1;rw [show zbx l=(vD l).bind fun x=>some ((x.1:Int),x.2)from rfl,h1]at HD;rw [zzq0,zzq0]at HD;go_wp2_with (go_at_call 12;refine H1.mono ?_;rintro e v1 ⟨rfl,hr1,hg1⟩;have S1:=S0.call hr1 hg1;clear S0 H1 hr1 hg1);have H2:=zbL r l1 _ S1.rd;rcases h2:vD l1 with _|⟨b,l2⟩
 ·exact zz117
 rw [h2]at H2;rw [show zbx l1=(vD l1).bind fun x=>some ((x.1:Int),x.2)from rfl,h2]at HD;rw [zzq0,zzq0]at HD;go_wp2_with (go_at_call 12;refine H2.mono ?_;rintro e v2 ⟨rfl,hr2,hg2⟩;have S2:=S1.call hr2 hg2;clear S1 H2 hr2 hg2;have x0:v2.cell? ⟨w.heap.size,0,none⟩=some (.int .i64 0):=zzq2 v2 _ 0 _ _ _ S2.x;have y0:v2.frozen? ⟨w.heap.size,0,none⟩=false:=zzq9 v2 _ 0 _ _ S2.x;have x1:v2.cell? ⟨w.heap.size,1,none⟩=some (.int .i64 0):=zzq2 v2 _ 1 _ _ _ S2.x;have y1:v2.frozen? ⟨w.heap.size,1,none⟩=false:=zzq9 v2 _ 1 _ _ S2.x);have hres:((v2.setCell ⟨w.heap.size,0,none⟩ (.int .i64 (a:Nat))).setCell ⟨w.heap.size,1,none⟩ (.int .i64 (b:Nat))).heap[w.heap.size]?=some (.cells #[.int .i64 (a:Nat),.int .i64 (b:Nat)] 94 (0,0)):=(zzS _ _ 1 _ _ _ (zzS _ _ 0 _ _ _ S2.x))
 refine bodyPost_ret (results_cell_row rfl _ _ w.heap.size _ _ _ _ rfl hres Tryz.underlying94 rfl (by kernel_rfl)) rfl ?_;rw [<-HQ.out,HD.out];exact⟨⟨rfl,⟨rfl,(zg4 (zcE h1).1),(zg4 (zcE h2).1)⟩⟩,S2.off ((OffB.set w.heap.size _ 0 _).trans (OffB.set w.heap.size _ 1 _)) (((zzR _ _).setCell (p:=⟨w.heap.size,0,none⟩) (zzL _) _).setCell (p:=⟨w.heap.size,1,none⟩) (zzL _) _)⟩
theorem zo5 (r:Nat) (l:List UInt8) (w:World) (h:RdC r l w):
  Calls Tryz.prog 18 #[.pointer (some ⟨r,0,none⟩)] w (zis r w (fnD l)):=by
 generalize hQ:zis r w (fnD l)=Q at *;have HQ:=zzH hQ;clear hQ;have S0:=KSt.start h (.cells #[.int .i64 0,.int .i64 0,.int .i64 0] 55);have HD:Hid (fnD l=(zbx l).bind fun x=>(zbx x.2).bind fun y=>(zbx y.2).bind fun z=>some (⟨x.1,y.1,z.1⟩,z.2)):=zzH rfl;go_in;go_upto_region 1 with fail;generalize w.alloc _=w0 at *;have H1:=zbL r l _ S0.rd;rcases h1:vD l with _|⟨a,l1⟩
 ·exact zz118
 rw [h1]at H1;rw [show zbx l=(vD l).bind fun x=>some ((x.1:Int),x.2)from rfl,h1]at HD;rw [zzq0,zzq0]at HD;go_wp2_with (go_at_call 12;refine H1.mono ?_;rintro e v1 ⟨rfl,hr1,hg1⟩;have S1:=S0.call hr1 hg1;clear S0 H1 hr1 hg1);have H2:=zbL r l1 _ S1.rd;rcases h2:vD l1 with _|⟨b,l2⟩
 ·exact zz117
 rw [h2]at H2;rw [show zbx l1=(vD l1).bind fun x=>some ((x.1:Int),x.2)from rfl,h2]at HD;rw [zzq0,zzq0]at HD;go_wp2_with (go_at_call 12;refine H2.mono ?_;rintro e v2 ⟨rfl,hr2,hg2⟩;have S2:=S1.call hr2 hg2;clear S1 H2 hr2 hg2);have H3:=zbL r l2 _ S2.rd;rcases h3:vD l2 with _|⟨c,l3⟩
 ·rw [h3]at H3
  rw [show zbx l2=(vD l2).bind fun x=>some ((x.1:Int),x.2)from rfl,h3]at HD;go_wp2_with (go_at_call 12;refine H3.mono ?_;rintro e v3 ⟨rfl,hg3⟩);exact zz98
 rw [h3]at H3;rw [show zbx l2=(vD l2).bind fun x=>some ((x.1:Int),x.2)from rfl,h3]at HD;rw [zzq0,zzq0]at HD;go_wp2_with (go_at_call 12;refine H3.mono ?_;rintro e v3 ⟨rfl,hr3,hg3⟩;have S3:=S2.call hr3 hg3;clear S2 H3 hr3 hg3;have x0:v3.cell? ⟨w.heap.size,0,none⟩=some (.int .i64 0):=zzq2 v3 _ 0 _ _ _ S3.x;have y0:v3.frozen? ⟨w.heap.size,0,none⟩=false:=zzq9 v3 _ 0 _ _ S3.x;have x1:v3.cell? ⟨w.heap.size,1,none⟩=some (.int .i64 0):=zzq2 v3 _ 1 _ _ _ S3.x;have y1:v3.frozen? ⟨w.heap.size,1,none⟩=false:=zzq9 v3 _ 1 _ _ S3.x;have x2:v3.cell? ⟨w.heap.size,2,none⟩=some (.int .i64 0):=zzq2 v3 _ 2 _ _ _ S3.x;have y2:v3.frozen? ⟨w.heap.size,2,none⟩=false:=zzq9 v3 _ 2 _ _ S3.x);have hres:(((v3.setCell ⟨w.heap.size,0,none⟩ (.int .i64 (a:Nat))).setCell ⟨w.heap.size,1,none⟩ (.int .i64 (b:Nat))).setCell ⟨w.heap.size,2,none⟩ (.int .i64 (c:Nat))).heap[w.heap.size]?=some (.cells #[.int .i64 (a:Nat),.int .i64 (b:Nat),.int .i64 (c:Nat)] 55 (0,0)):=(zzS _ _ 2 _ _ _ (zzS _ _ 1 _ _ _ (zzS _ _ 0 _ _ _ S3.x)))
 refine bodyPost_ret (results_cell_row rfl _ _ w.heap.size _ _ _ _ rfl hres Tryz.underlying55 rfl (by kernel_rfl)) rfl ?_;rw [<-HQ.out,HD.out];exact⟨⟨rfl,⟨rfl,(zg4 (zcE h1).1),(zg4 (zcE h2).1),(zg4 (zcE h3).1)⟩⟩,S3.off (((OffB.set w.heap.size _ 0 _).trans (OffB.set w.heap.size _ 1 _)).trans (OffB.set w.heap.size _ 2 _)) ((((zzR _ _).setCell (p:=⟨w.heap.size,0,none⟩) (zzL _) _).setCell (p:=⟨w.heap.size,1,none⟩) (zzL _) _).setCell (p:=⟨w.heap.size,2,none⟩) (zzL _) _)⟩
theorem znf (r:Nat) (l:List UInt8) (w:World) (h:RdC r l w):
  Calls Tryz.prog 16 #[.pointer (some ⟨r,0,none⟩)] w (zhF r w (zcU l)):=by
 generalize hQ:zhF r w (zcU l)=Q at *;have HQ:=zzH hQ;clear hQ;have S0:=KSt.start h (.cells #[.string ⟨#[]⟩,.int .i64 0,.bool false,.int .i64 0] 51);have HD:Hid (zcU l=(zcP l).bind fun x=>(zbx x.2).bind fun y=>(zdL y.2).bind fun z=>(zbx z.2).bind fun q=>some (⟨x.1,y.1,z.1,q.1⟩,q.2)):=zzH rfl;go_in;go_upto_region 1 with fail;generalize w.alloc _=w0 at *;have H1:=zf3 r l _ S0.rd;rcases h1:zcP l with _|⟨a,l1⟩
 ·exact zz119
 rw [h1]at H1 HD;rw [zzq0]at HD;go_wp2_with (go_at_call 11;refine H1.mono ?_;rintro e v1 ⟨rfl,hr1,hg1⟩;have S1:=S0.call hr1 hg1;clear S0 H1 hr1 hg1);have H2:=zbL r l1 _ S1.rd;rcases h2:vD l1 with _|⟨b,l2⟩
 ·exact zz117
 rw [h2]at H2;rw [show zbx l1=(vD l1).bind fun x=>some ((x.1:Int),x.2)from rfl,h2]at HD;rw [zzq0,zzq0]at HD;go_wp2_with (go_at_call 12;refine H2.mono ?_;rintro e v2 ⟨rfl,hr2,hg2⟩;have S2:=S1.call hr2 hg2;clear S1 H2 hr2 hg2);have H3:=ziV r l2 _ S2.rd;rcases h3:zdL l2 with _|⟨c,l3⟩
 ·rw [h3]at H3 HD
  go_wp2_with (go_at_call 32;refine H3.mono ?_;rintro e v3 ⟨rfl,hg3⟩);exact zz98
 rw [h3]at H3 HD;rw [zzq0]at HD;go_wp2_with (go_at_call 32;refine H3.mono ?_;rintro e v3 ⟨rfl,hr3,hg3⟩;have S3:=S2.call hr3 hg3;clear S2 H3 hr3 hg3);have H4:=zbL r l3 _ S3.rd;rcases h4:vD l3 with _|⟨d,l4⟩
 ·rw [h4]at H4
  rw [show zbx l3=(vD l3).bind fun x=>some ((x.1:Int),x.2)from rfl,h4]at HD;go_wp2_with (go_at_call 12;refine H4.mono ?_;rintro e v4 ⟨rfl,hg4⟩);exact zz91
 rw [h4]at H4;rw [show zbx l3=(vD l3).bind fun x=>some ((x.1:Int),x.2)from rfl,h4]at HD;rw [zzq0,zzq0]at HD;go_wp2_with (go_at_call 12;refine H4.mono ?_;rintro e v4 ⟨rfl,hr4,hg4⟩;have S4:=S3.call hr4 hg4;clear S3 H4 hr4 hg4;have x0:v4.cell? ⟨w.heap.size,0,none⟩=some (.string ⟨#[]⟩):=zzq2 v4 _ 0 _ _ _ S4.x;have y0:v4.frozen? ⟨w.heap.size,0,none⟩=false:=zzq9 v4 _ 0 _ _ S4.x;have x1:v4.cell? ⟨w.heap.size,1,none⟩=some (.int .i64 0):=zzq2 v4 _ 1 _ _ _ S4.x;have y1:v4.frozen? ⟨w.heap.size,1,none⟩=false:=zzq9 v4 _ 1 _ _ S4.x;have x2:v4.cell? ⟨w.heap.size,2,none⟩=some (.bool false):=zzq2 v4 _ 2 _ _ _ S4.x;have y2:v4.frozen? ⟨w.heap.size,2,none⟩=false:=zzq9 v4 _ 2 _ _ S4.x;have x3:v4.cell? ⟨w.heap.size,3,none⟩=some (.int .i64 0):=zzq2 v4 _ 3 _ _ _ S4.x;have y3:v4.frozen? ⟨w.heap.size,3,none⟩=false:=zzq9 v4 _ 3 _ _ S4.x);have hres:((((v4.setCell ⟨w.heap.size,0,none⟩ (.string a)).setCell ⟨w.heap.size,1,none⟩ (.int .i64 (b:Nat))).setCell ⟨w.heap.size,2,none⟩ (.bool c)).setCell ⟨w.heap.size,3,none⟩ (.int .i64 (d:Nat))).heap[w.heap.size]?=some (.cells #[.string a,.int .i64 (b:Nat),.bool c,.int .i64 (d:Nat)] 51 (0,0)):=(zzS _ _ 3 _ _ _ (zzS _ _ 2 _ _ _ (zzS _ _ 1 _ _ _ (zzS _ _ 0 _ _ _ S4.x))))
 refine bodyPost_ret (results_cell_row rfl _ _ w.heap.size _ _ _ _ rfl hres Tryz.underlying51 rfl (by kernel_rfl)) rfl ?_;rw [<-HQ.out,HD.out];exact⟨⟨rfl,⟨rfl,(zpd h1),(zg4 (zcE h2).1),(zg4 (zcE h4).1)⟩⟩,S4.off ((((OffB.set w.heap.size _ 0 _).trans (OffB.set w.heap.size _ 1 _)).trans (OffB.set w.heap.size _ 2 _)).trans (OffB.set w.heap.size _ 3 _)) (((((zzR _ _).setCell (p:=⟨w.heap.size,0,none⟩) (zzL _) _).setCell (p:=⟨w.heap.size,1,none⟩) (zzL _) _).setCell (p:=⟨w.heap.size,2,none⟩) (zzL _) _).setCell (p:=⟨w.heap.size,3,none⟩) (zzL _) _)⟩
theorem zqw (r:Nat) (l:List UInt8) (w:World) (h:RdC r l w):
  Calls Tryz.prog 39 #[.pointer (some ⟨r,0,none⟩)] w (ziu r w (zdw l)):=by
 generalize hQ:ziu r w (zdw l)=Q at *;have HQ:=zzH hQ;clear hQ;have S0:=KSt.start h (.cells #[.int .i64 0,.int .i64 0,.int .i64 0,.int .i64 0,.int .i64 0,.bool false] 98);have HD:Hid (zdw l=(zbx l).bind fun x=>(zcl x.2).bind fun y=>(zcl y.2).bind fun z=>(zdL z.2).bind fun q=>some (⟨x.1,y.1,z.1,q.1⟩,q.2)):=zzH rfl;go_in;go_upto_region 1 with fail;generalize w.alloc _=w0 at *;have H1:=zbL r l _ S0.rd;rcases h1:vD l with _|⟨a,l1⟩
 ·exact zz118
 rw [h1]at H1;rw [show zbx l=(vD l).bind fun x=>some ((x.1:Int),x.2)from rfl,h1]at HD;rw [zzq0,zzq0]at HD;go_wp2_with (go_at_call 12;refine H1.mono ?_;rintro e v1 ⟨rfl,hr1,hg1⟩;have S1:=S0.call hr1 hg1;clear S0 H1 hr1 hg1);have H2:=zgC r l1 _ S1.rd;rcases h2:zcl l1 with _|⟨b,l2⟩
 ·rw [h2]at H2 HD
  go_wp2_with (go_at_call 34;refine H2.mono ?_;rintro e v2 ⟨rfl,hg2⟩);exact zz97
 rw [h2]at H2 HD;rw [zzq0]at HD;go_wp2_with (go_at_call 34;refine H2.mono ?_;rintro e v2 ⟨rfl,hr2,hg2⟩;have S2:=S1.call hr2 hg2;clear S1 H2 hr2 hg2);have H3:=zgC r l2 _ S2.rd;rcases h3:zcl l2 with _|⟨c,l3⟩
 ·rw [h3]at H3 HD
  go_wp2_with (go_at_call 34;refine H3.mono ?_;rintro e v3 ⟨rfl,hg3⟩);exact zz98
 rw [h3]at H3 HD;rw [zzq0]at HD;go_wp2_with (go_at_call 34;refine H3.mono ?_;rintro e v3 ⟨rfl,hr3,hg3⟩;have S3:=S2.call hr3 hg3;clear S2 H3 hr3 hg3);have H4:=ziV r l3 _ S3.rd;rcases h4:zdL l3 with _|⟨d,l4⟩
 ·rw [h4]at H4 HD
  go_wp2_with (go_at_call 32;refine H4.mono ?_;rintro e v4 ⟨rfl,hg4⟩);exact zz91
 rw [h4]at H4 HD;rw [zzq0]at HD;go_wp2_with (go_at_call 32;refine H4.mono ?_;rintro e v4 ⟨rfl,hr4,hg4⟩;have S4:=S3.call hr4 hg4;clear S3 H4 hr4 hg4;have x0:v4.cell? ⟨w.heap.size,0,none⟩=some (.int .i64 0):=zzq2 v4 _ 0 _ _ _ S4.x;have y0:v4.frozen? ⟨w.heap.size,0,none⟩=false:=zzq9 v4 _ 0 _ _ S4.x;have x1:v4.cell? ⟨w.heap.size,1,none⟩=some (.int .i64 0):=zzq2 v4 _ 1 _ _ _ S4.x;have y1:v4.frozen? ⟨w.heap.size,1,none⟩=false:=zzq9 v4 _ 1 _ _ S4.x;have x2:v4.cell? ⟨w.heap.size,2,none⟩=some (.int .i64 0):=zzq2 v4 _ 2 _ _ _ S4.x;have y2:v4.frozen? ⟨w.heap.size,2,none⟩=false:=zzq9 v4 _ 2 _ _ S4.x;have x3:v4.cell? ⟨w.heap.size,3,none⟩=some (.int .i64 0):=zzq2 v4 _ 3 _ _ _ S4.x;have y3:v4.frozen? ⟨w.heap.size,3,none⟩=false:=zzq9 v4 _ 3 _ _ S4.x;have x4:v4.cell? ⟨w.heap.size,4,none⟩=some (.int .i64 0):=zzq2 v4 _ 4 _ _ _ S4.x;have y4:v4.frozen? ⟨w.heap.size,4,none⟩=false:=zzq9 v4 _ 4 _ _ S4.x;have x5:v4.cell? ⟨w.heap.size,5,none⟩=some (.bool false):=zzq2 v4 _ 5 _ _ _ S4.x;have y5:v4.frozen? ⟨w.heap.size,5,none⟩=false:=zzq9 v4 _ 5 _ _ S4.x);have hres:((((((v4.setCell ⟨w.heap.size,0,none⟩ (.int .i64 (a:Nat))).setCell ⟨w.heap.size,1,none⟩ (.int .i64 b.kind)).setCell ⟨w.heap.size,2,none⟩ (.int .i64 b.n)).setCell ⟨w.heap.size,3,none⟩ (.int .i64 c.kind)).setCell ⟨w.heap.size,4,none⟩ (.int .i64 c.n)).setCell ⟨w.heap.size,5,none⟩ (.bool d)).heap[w.heap.size]?=some (.cells #[.int .i64 (a:Nat),.int .i64 b.kind,.int .i64 b.n,.int .i64 c.kind,.int .i64 c.n,.bool d] 98 (0,0)):=(zzS _ _ 5 _ _ _ (zzS _ _ 4 _ _ _ (zzS _ _ 3 _ _ _ (zzS _ _ 2 _ _ _ (zzS _ _ 1 _ _ _ (zzS _ _ 0 _ _ _ S4.x))))))
 refine bodyPost_ret (results_cell_row rfl _ _ w.heap.size _ _ _ _ rfl hres Tryz.underlying98 rfl (by kernel_rfl)) rfl ?_;rw [<-HQ.out,HD.out];exact⟨⟨rfl,⟨rfl,(zg4 (zcE h1).1),(ze9 h2).1,(ze9 h2).2,(ze9 h3).1,(ze9 h3).2⟩⟩,S4.off ((((((OffB.set w.heap.size _ 0 _).trans (OffB.set w.heap.size _ 1 _)).trans (OffB.set w.heap.size _ 2 _)).trans (OffB.set w.heap.size _ 3 _)).trans (OffB.set w.heap.size _ 4 _)).trans (OffB.set w.heap.size _ 5 _)) (((((((zzR _ _).setCell (p:=⟨w.heap.size,0,none⟩) (zzL _) _).setCell (p:=⟨w.heap.size,1,none⟩) (zzL _) _).setCell (p:=⟨w.heap.size,2,none⟩) (zzL _) _).setCell (p:=⟨w.heap.size,3,none⟩) (zzL _) _).setCell (p:=⟨w.heap.size,4,none⟩) (zzL _) _).setCell (p:=⟨w.heap.size,5,none⟩) (zzL _) _)⟩
theorem zof (r:Nat) (l:List UInt8) (w:World) (h:RdC r l w):Calls Tryz.prog 34 #[.pointer (some ⟨r,0,none⟩)] w (zli r w (zcl l)):=by
 refine(zgC r l w h).mono ?_;intro e w1 hp;rcases h1:zcl l with _|⟨a,l1⟩
 ·rw [h1]at hp;exact hp
 ·rw [h1]at hp
  have:=ze6 h1;exact⟨⟨hp.1,rfl,(ze9 h1).1,(ze9 h1).2⟩,hp.2⟩
theorem zki:(Tryz.prog.info? 47).map (fun i=>(i.zero,i.size,i.bytes))=some (some (.agg #[.int .i64 0,.int .i64 0,.int .i64 0,.string ⟨#[]⟩,.string ⟨#[]⟩,.int .i64 0,.slice none 0 0,.string ⟨#[]⟩,.int .i64 0]),9,112):=by kernel_rfl
def ziF (r:Nat) (w:World) (d:Option (Tm × List UInt8)) (e:Ending) (w':World):Prop:=
 match d with
 |none=>e=gaveUp/\w.grownBy w' (some r)
 |some (x,l)=>(∃so c,e= .returned (.agg #[.int .i64 x.kind,.int .i64 x.int,.int .i64 x.gen,.string x.name,.string x.func,.int .i64 x.arity,.slice so x.items.length c,.string x.bytes,.int .i64 x.bits])/\Way.tm.on w' (w.heap.size<= ·) (#[.int .i64 x.kind,.int .i64 x.int,.int .i64 x.gen,.string x.name,.string x.func,.int .i64 x.arity,.slice so x.items.length c,.string x.bytes,.int .i64 x.bits]).toList x)/\RdC r l w'/\w.grownBy w' (some r)
theorem Way.tmOf {w:World} {P:Nat->Prop} {t:Tm} {so:Option Addr} {c:Nat} (h:SlIn w P 9 (TmIn w P 1999) so t.items):Way.tm.on w P (tmL t so c) t:=⟨so,c,rfl,h⟩
theorem zpF (r:Nat) (l:List UInt8) (w:World) (h:RdC r l w):
  Calls Tryz.prog 14 #[.pointer (some ⟨r,0,none⟩)] w (ziF r w (zdz l)):=by
 generalize hQ:ziF r w (zdz l)=Q at *;have HQ:=zzH hQ;clear hQ;have S0:=KSt.start h (.cells zo 47);unfold zo at S0;have HD:Hid (zdz l=(zcP l).bind fun x=>(zcr x.1.data.toList).bind fun t=>some (t,x.2)):=zzH rfl;go_in;go_upto_region 1 with fail;generalize w.alloc _=w0 at *;have H1:=zf3 r l _ S0.rd;rcases h1:zcP l with _|⟨s,l1⟩
 ·exact zz119
 rw [h1]at H1 HD;rw [zzq0]at HD;have hsz:s.size<=9223372036854775807:=by have:=(zfr h1).2;omega
 have HG:=fun wx=>zqn s wx hsz
 unfold zl9 at HG;clear hsz;rcases h2:zcr s.data.toList with _|t
 ·rw [h2]at HD
  rw [h2]at HG;go_wp2_with (first|(go_at_call 11;refine H1.mono ?_;rintro e v1 ⟨rfl,hr1,hg1⟩;have S1:=S0.call hr1 hg1;clear S0 hr1 hg1 H1)|(go_at_call 31;refine(HG _).mono ?_;rintro e v2 ⟨rfl,hb2⟩;have hgr:w.grownBy v2 (some r):=zC S1.gr (hb2.mono S1.gr.size)));exact⟨rfl,by rw [<-HQ.out,HD.out];exact⟨rfl,zC hgr ((zzR _ _).alloc hgr.size _)⟩⟩
 rw [h2]at HD;rw [h2]at HG;go_upto_region 4 with(first|(go_at_call 11;refine H1.mono ?_;rintro e v1 ⟨rfl,hr1,hg1⟩;have S1:=S0.call hr1 hg1;clear S0 hr1 hg1 H1)|(go_at_call 31;refine(HG _).mono ?_;rintro e v2 ⟨⟨so,c,rfl,htm⟩,hb2⟩));have hB3:=(zzR v2.heap.size v2).alloc (zzL _) (.cells #[.int .i64 t.kind,.int .i64 t.int,.int .i64 t.gen,.string t.name,.string t.func,.int .i64 t.arity,.slice so t.items.length c,.string t.bytes,.int .i64 t.bits] 47);have hY3:=heap_alloc_new v2 (.cells #[.int .i64 t.kind,.int .i64 t.int,.int .i64 t.gen,.string t.name,.string t.func,.int .i64 t.arity,.slice so t.items.length c,.string t.bytes,.int .i64 t.bits] 47);have hlw:=zc S1.x;have hX3:=(hB3.block _ (zzW hlw hb2.size)).trans ((hb2.block _ hlw).trans S1.x);have hbb:=hb2.trans (hB3.mono hb2.size);have hrd:=S1.rd.below hbb;have hgr:w.grownBy _ (some r):=zC S1.gr (hbb.mono S1.gr.size);have hsl:=htm.sl.new hB3;have hw1:w.heap.size<=v1.heap.size:=S1.gr.size;have hne2:w.heap.size<v2.heap.size:=zzW hlw hb2.size;have hrw:=S1.hr;clear htm hB3 hb2 hbb S1 HG;generalize v2.alloc _=v3 at *;generalize v2.heap.size=Y at *;obtain⟨x0,x1,x2,x3,x4,x5,x6,x7,x8,y0,y1,y2,y3,y4,y5,y6,y7,y8⟩:=zf hX3;obtain⟨q0,q1,q2,q3,q4,q5,q6,q7,q8,z0,z1,z2,z3,z4,z5,z6,z7,z8⟩:=zf hY3;go_wp2_with fail;refine bodyPost_ret (results_cell_row rfl _ _ w.heap.size _ _ _ _ rfl (zbG _ _ _ _ _ _ _ _ _ hX3) Tryz.underlying47 rfl (by kernel_rfl)) rfl ?_;rw [<-HQ.out,HD.out];exact⟨⟨so,c,rfl,Way.tmOf (hsl.off (OffB.nine _ _ _ _ _ _ _ _ _ _ _) hlw hw1)⟩,hrd.off (OffB.nine _ _ _ _ _ _ _ _ _ _ _) (by omega),zC hgr (zb1 (zzL _) (zzR _ _) _ _ _ _ _ _ _ _ _)⟩
theorem zjW (r:Nat) (l0:List UInt8) (w:World) (HO: ∀(l:List UInt8) (wx:World),RdC r l wx->Calls Tryz.prog 14 #[.pointer (some ⟨r,0,none⟩)] wx (ziF r wx (zdz l)))
  (HL: ∀l x l',zdz l=some (x,l')->l'.length<l.length) (h:RdC r l0 w):
  Calls Tryz.prog 13 #[.pointer (some ⟨r,0,none⟩),.func (.func 14) #[.pointer (some ⟨r,0,none⟩)] #[]] w (zd1 r w 9 Way.tm (zbh zdz l0)):=by
 generalize hQ:zd1 r w 9 Way.tm (zbh zdz l0)=Q at *;have HQ:=zzH hQ;clear hQ;have HOO:=zzH HO;have HLL:=zzH HL;clear HO HL;have HN:=zbL r l0 w h;have HD:Hid (zbh zdz l0=(vD l0).bind fun x=>zb3 zdz x.1 x.2):=zzH rfl;have hrw:=h.lt;have hlen0:=h.len;go_in;rcases h1:vD l0 with _|⟨n,l1⟩
 ·exact zz113
 rw [h1]at HN HD;rw [zzq0]at HD;have hn:=zcE h1;go_wp2_with (go_at_call 12;refine HN.mono ?_;rintro e w1 ⟨rfl,hr1,hg1⟩);go_loopw [6,5] (fun nv lv wr=> ∃(k:Nat) (l:List UInt8) (ts:List Tm),nv= .int .i64 k/\k+ts.length=n/\ts.length+l.length<=l0.length/\Hid (zbh zdz l0=(zb3 zdz k l).bind fun y=>some (ts++y.1,y.2))/\RdC r l wr/\AccG 47 9 Way.tm w.heap.size lv ts wr/\w.grownBy wr (some r)) (fun nv _ _=>(intOf nv).toNat)
 case atStart=>exact⟨n,l1,[],rfl,rfl,by simp;omega,zzH (by rw [HD.out];cases zb3 zdz n l1<;>rfl),hr1,AccG.nil _,hg1⟩
 case round=>
  obtain⟨k,l,ts,rfl,hk,hll,HI,hrd,hacc,hg⟩:=hrel
  cases k with
  |zero=>
   exact zz114
  |succ k=>
   obtain⟨ao,cap0,rfl,-⟩:=hacc.sl;have hpos:((k+1:Nat):Int)>0:=by omega
   have HT:=HOO.out l wr hrd;rcases h2:zdz l with _|⟨x,l2⟩
   ·rw [h2]at HT
    go_wp2_with (go_at_call 14;refine HT.mono ?_;rintro e w2 ⟨rfl,hg2⟩);exact zz116
   rw [h2]at HT;have hlt:=HLL.out l x l2 h2;obtain⟨i0,hi,hz0,hz1,hz2⟩:=info_parts zki
   go_wp2_with (first
    |(go_at_call 14;refine HT.mono ?_;rintro e w2 ⟨⟨sx,cx,rfl,hval⟩,hr2,hg2⟩;obtain⟨xs,ho,hR⟩:=((hacc.grown hg2 hrw).below ((zzR _ _).alloc (zzL _) (.cells #[.int .i64 x.kind,.int .i64 x.int,.int .i64 x.gen,.string x.name,.string x.func,.int .i64 x.arity,.slice sx x.items.length cx,.string x.bytes,.int .i64 x.bits] 47))).own)
    |(at_builtin;refine wpList_append_lies _ rfl (.tmp 13) (.tmp 16) 23 rfl w.heap.size 47 i0 _ 9 112 Tryz.underlying23 hi hz0 hz1 hz2 rfl (by decide) _ ts.length xs rfl ho ⟨w2.heap.size,0,none⟩ 1 1 (#[.int .i64 x.kind,.int .i64 x.int,.int .i64 x.gen,.string x.name,.string x.func,.int .i64 x.arity,.slice sx x.items.length cx,.string x.bytes,.int .i64 x.bits]).toList rfl rfl (World.news_of_block (heap_alloc_new _ _)) (by simp [Value.oneCell']) (by decide) (by unfold maxLen;omega) (by omega) (by have:=hg.size;have:=hg2.size;simp;omega) _ rfl ?_;intro g cap w3 ho3 hg3 hat hlt3))
   have ho0: ∀k,(Value.slice ao ts.length cap0).ownBlock=some k->w.heap.size<=k/\k<wr.heap.size:=by
    exact zz87
   have hb1:=(zzR w2.heap.size w2).alloc (zzL _) (.cells #[.int .i64 x.kind,.int .i64 x.int,.int .i64 x.gen,.string x.name,.string x.func,.int .i64 x.arity,.slice sx x.items.length cx,.string x.bytes,.int .i64 x.bits] 47)
   have hacc2:AccG 47 9 Way.tm w.heap.size (.slice (some ⟨g,0,none⟩) (ts.length+1) cap) (ts++ [x]) w3:=
    AccG.app (fun k e=>(ho0 k e).2) hR (Way.below _ hb1 hval) rfl hg.size hg3 (fun k e=>by
     have e:g=k:=Option.some.inj e;subst e;exact hat.imp id fun h=>Nat.le_of_eq h.symm) ho3
   have hr3:RdC r l2 w3:=by
    exact zz115
   have hgw:w.grownBy w3 (some r):=zcF (zC (zh hg hg2) (hb1.mono (zzY hg.size hg2.size))) hg3 (fun k e=>(ho0 k e).1);go_wp2_with fail;go_roundw
   case rel=>exact⟨k,l2,ts++ [x],by go_num,by rw [zzq1];simp;omega,by rw [zzq1];simp;omega,zzH (by
    rw [HI.out,zdH,h2,zzq0]
    cases zb3 zdz k l2 with
    |none=>rfl
    |some y=>simp only [zzX5]),hr3,hacc2,hgw⟩
   case measure=>simp [intOf]
theorem zbO {w:World} {B:Nat} {v0 v1 v2 v3 v4 v5 v6 v7 v8 v9:Value} (h:w.heap[B]?=some (.cells #[v0,v1,v2,v3,v4,v5,v6,v7,v8,v9] 64 (0,0))):
  w.cell? ⟨B,0,none⟩=some v0/\w.cell? ⟨B,1,none⟩=some v1/\w.cell? ⟨B,2,none⟩=some v2/\w.cell? ⟨B,3,none⟩=some v3/\w.cell? ⟨B,4,none⟩=some v4/\w.cell? ⟨B,5,none⟩=some v5/\w.cell? ⟨B,6,none⟩=some v6/\w.cell? ⟨B,7,none⟩=some v7/\w.cell? ⟨B,8,none⟩=some v8/\w.cell? ⟨B,9,none⟩=some v9/\(w.frozen? ⟨B,0,none⟩=false/\w.frozen? ⟨B,1,none⟩=false/\w.frozen? ⟨B,2,none⟩=false/\w.frozen? ⟨B,3,none⟩=false/\w.frozen? ⟨B,4,none⟩=false/\w.frozen? ⟨B,5,none⟩=false/\w.frozen? ⟨B,6,none⟩=false/\w.frozen? ⟨B,7,none⟩=false/\w.frozen? ⟨B,8,none⟩=false/\w.frozen? ⟨B,9,none⟩=false):=by
 have hc:=fun j=>zzq2 w B j _ _ _ h
 have hf:=fun j=>zzq9 w B j _ _ h
 exact⟨hc 0,hc 1,hc 2,hc 3,hc 4,hc 5,hc 6,hc 7,hc 8,hc 9,hf 0,hf 1,hf 2,hf 3,hf 4,hf 5,hf 6,hf 7,hf 8,hf 9⟩
def InsIn (w:World) (P:Nat->Prop) (cs:List Value) (x:RIns):Prop:=
 ∃so sc co cc go gc,cs= [.int .i64 x.op,.int .i64 x.dst.kind,.int .i64 x.dst.n,.slice so x.src.length sc,.int .i64 x.to,.int .i64 x.n,.int .i64 x.live,.string x.name,.slice co x.cases.length cc,.slice go x.segs.length gc] /\
  SlIn w P 2 zdj so x.src/\SlIn w P 2 zcR co x.cases/\SlIn w P 6 zdk go x.segs
def Way.ins:Way RIns:=⟨InsIn,fun hs hk hP ⟨so,sc,co,cc,go,gc,e,h1,h2,h3⟩=>⟨so,sc,co,cc,go,gc,e,h1.kept hs hk hP fun _ _ h=>h,h2.kept hs hk hP fun _ _ h=>h,h3.kept hs hk hP fun _ _ h=>h⟩⟩
theorem InsIn.ok {w:World} {P:Nat->Prop} {cs:List Value} {x:RIns} (h:InsIn w P cs x) (ho:InsOk x):InsR w cs x:=by
 obtain⟨so,sc,co,cc,go,gc,e,h1,h2,h3⟩:=h;refine⟨⟨so,sc,co,cc,go,gc,e,h1.at fun _ _ _ h=>h,h2.at fun _ _ _ h=>h,h3.at fun _ _ _ h=>h⟩,ho.op,ho.dst.1,ho.dst.2,?_,ho.tgt,ho.n,ho.live,?_,?_,?_⟩
 ·have:=ho.srcL;unfold maxLen;omega
 ·have:=ho.name;unfold maxLen;omega
 ·have:=ho.casesL;unfold maxLen;omega
 ·have:=ho.segsL;unfold maxLen;omega
structure ISt (w0:World) (r:Nat) (l:List UInt8) (X Y R B h l1 l2:Nat) (op:Int) (d:RArg) (ss:List RArg) (tg n lv:Int) (nm:ByteArray) (cs:List RCase) (gs:List RSeg) (wx:World):Prop where
 rd:RdC r l wx
 gr:w0.grownBy wx (some r)
 x:wx.heap[X]?=some (.cells #[.int .i64 0,.int .i64 0,.int .i64 0,.slice none 0 0,.int .i64 0,.int .i64 0,.int .i64 0,.string ⟨#[]⟩,.slice none 0 0,.slice none 0 0] 64 (0,0))
 rw:wx.heap[R]?=some (.cells #[.int .i64 (h:Nat),.int .i64 (l1:Nat),.int .i64 (l2:Nat)] 87 (0,0))
 hr:r<w0.heap.size
 hX:X=w0.heap.size
 hY:X<Y
 hR:Y<R
 hB:R<B
 hBw:B<=wx.heap.size
 y: ∃so sc co cc go gc,wx.heap[Y]?=some (.cells #[.int .i64 op,.int .i64 d.kind,.int .i64 d.n,.slice so ss.length sc,.int .i64 tg,.int .i64 n,.int .i64 lv,.string nm,.slice co cs.length cc,.slice go gs.length gc] 64 (0,0))/\SlIn wx (B<= ·) 2 zdj so ss/\SlIn wx (B<= ·) 2 zcR co cs/\SlIn wx (B<= ·) 6 zdk go gs
section
variable {w0:World} {r:Nat} {l:List UInt8} {X Y R B h l1 l2:Nat} {op:Int} {d:RArg} {ss:List RArg} {tg n lv:Int} {nm:ByteArray} {cs:List RCase} {gs:List RSeg} {wx wy:World}
theorem ISt.call (S:ISt w0 r l X Y R B h l1 l2 op d ss tg n lv nm cs gs wx) {l':List UInt8} (hr:RdC r l' wy) (hg:wx.grownBy wy (some r)):ISt w0 r l' X Y R B h l1 l2 op d ss tg n lv nm cs gs wy:=by
 have hX:=S.hX;have hY:=S.hY;have hR:=S.hR;have hB:=S.hB;have hrw:=S.hr;obtain⟨so,sc,co,cc,go,gc,hy,h1,h2,h3⟩:=S.y;have hk: ∀b,B<=b->b<wx.heap.size->wy.heap[b]?=wx.heap[b]?:=fun b hb hl=>hg.block b hl fun e=>by have:=Option.some.inj e;omega
 exact⟨hr,zh S.gr hg,zbX hg S.hr (by omega) S.x,zbX hg S.hr (by omega) S.rw,S.hr,S.hX,S.hY,S.hR,S.hB,zzY S.hBw hg.size,
  so,sc,co,cc,go,gc,zbX hg S.hr (by omega) hy,h1.kept hg.size hk (fun b h _=>h) fun _ _ h=>h,h2.kept hg.size hk (fun b h _=>h) fun _ _ h=>h,h3.kept hg.size hk (fun b h _=>h) fun _ _ h=>h⟩
theorem ISt.put (S:ISt w0 r l X Y R B h l1 l2 op d ss tg n lv nm cs gs wx) (ho:OffB Y wx wy) (hbl:Below Y wx wy) {d':RArg} {ss':List RArg} {tg' n' lv':Int} {nm':ByteArray} {cs':List RCase} {gs':List RSeg}
  {so:Option Addr} {sc:Nat} {co:Option Addr} {cc:Nat} {go:Option Addr} {gc:Nat}
  (hy:wy.heap[Y]?=some (.cells #[.int .i64 op,.int .i64 d'.kind,.int .i64 d'.n,.slice so ss'.length sc,.int .i64 tg',.int .i64 n',.int .i64 lv',.string nm',.slice co cs'.length cc,.slice go gs'.length gc] 64 (0,0))) (h1:SlIn wx (B<= ·) 2 zdj so ss') (h2:SlIn wx (B<= ·) 2 zcR co cs') (h3:SlIn wx (B<= ·) 6 zdk go gs'):ISt w0 r l X Y R B h l1 l2 op d' ss' tg' n' lv' nm' cs' gs' wy:=by
 have hX:=S.hX;have hY:=S.hY;have hR:=S.hR;have hB:=S.hB;have hrw:=S.hr;have hk: ∀b,B<=b->b<wx.heap.size->wy.heap[b]?=wx.heap[b]?:=fun b hb hl=>ho.2 b (by omega)
 exact⟨S.rd.off ho (by omega),zC S.gr (hbl.mono (by omega)),(ho.2 X (by omega)).trans S.x,(ho.2 R (by omega)).trans S.rw,S.hr,S.hX,S.hY,S.hR,S.hB,zzY S.hBw ho.1,
  so,sc,co,cc,go,gc,hy,h1.kept ho.1 hk (fun b h _=>h) fun _ _ h=>h,h2.kept ho.1 hk (fun b h _=>h) fun _ _ h=>h,h3.kept ho.1 hk (fun b h _=>h) fun _ _ h=>h⟩
theorem ISt.rowc (S:ISt w0 r l X Y R B h l1 l2 op d ss tg n lv nm cs gs wx):wx.cell? ⟨R,0,none⟩=some (.int .i64 (h:Nat)):=zzq2 wx R 0 _ _ _ S.rw
end
def i8 (h:Nat) (op:Int) (d:RArg) (ss:List RArg) (n:Int) (nm:ByteArray) (cs:List RCase) (gs:List RSeg) (tg:Int):Dec RIns:=fun l=>(zdx (zm h 128) zbx 0 l).bind fun v=>some (⟨op,d,ss,tg,n,v.1,nm,cs,gs⟩,v.2)
def i7 (h:Nat) (op:Int) (d:RArg) (ss:List RArg) (n:Int) (nm:ByteArray) (cs:List RCase) (gs:List RSeg):Dec RIns:=fun l=>(zdx (zm h 64) zbx 0 l).bind fun t=>i8 h op d ss n nm cs gs t.1 t.2
def i6 (h:Nat) (op:Int) (d:RArg) (ss:List RArg) (n:Int) (nm:ByteArray) (cs:List RCase):Dec RIns:=fun l=>(zdx (zm h 32) (zbh zdw) [] l).bind fun g=>i7 h op d ss n nm cs g.1 g.2
def i5 (h:Nat) (op:Int) (d:RArg) (ss:List RArg) (n:Int) (nm:ByteArray):Dec RIns:=fun l=>(zdx (zm h 16) (zbh zcS) [] l).bind fun c=>i6 h op d ss n nm c.1 c.2
def i4 (h:Nat) (op:Int) (d:RArg) (ss:List RArg) (n:Int):Dec RIns:=fun l=>(zdx (zm h 8) zcP ⟨#[]⟩ l).bind fun m=>i5 h op d ss n m.1 m.2
def i3 (h:Nat) (op:Int) (d:RArg) (ss:List RArg):Dec RIns:=fun l=>(zdx (zm h 4) zbx 0 l).bind fun n=>i4 h op d ss n.1 n.2
def i2 (h:Nat) (op:Int) (d:RArg):Dec RIns:=fun l=>(zdx (zm h 2) (zbh zcl) [] l).bind fun s=>i3 h op d s.1 s.2
def i1 (h:Nat) (op:Int):Dec RIns:=fun l=>(zdx (zm h 1) zcl ⟨0,0⟩ l).bind fun d=>i2 h op d.1 d.2
theorem zrl (h:Nat) (op:Int) (l:List UInt8):zhK op h l=i1 h op l:=rfl
theorem zhk {α:Type} (one:Dec α) (z:α) (l:List UInt8):zdx false one z l=some (z,l):=rfl
theorem zd8 {α:Type} (one:Dec α) (z:α) (l:List UInt8):zdx true one z l=one l:=rfl
def ziD (r:Nat) (w:World) (d:Option (RIns × List UInt8)) (e:Ending) (w':World):Prop:=
 match d with
 |none=>e=gaveUp/\w.grownBy w' (some r)
 |some (x,l)=>(∃so sc co cc go gc,e= .returned (.agg #[.int .i64 x.op,.int .i64 x.dst.kind,.int .i64 x.dst.n,.slice so x.src.length sc,.int .i64 x.to,.int .i64 x.n,.int .i64 x.live,.string x.name,.slice co x.cases.length cc,.slice go x.segs.length gc])/\Way.ins.on w' (w.heap.size<= ·) (#[.int .i64 x.op,.int .i64 x.dst.kind,.int .i64 x.dst.n,.slice so x.src.length sc,.int .i64 x.to,.int .i64 x.n,.int .i64 x.live,.string x.name,.slice co x.cases.length cc,.slice go x.segs.length gc]).toList x)/\RdC r l w'/\w.grownBy w' (some r)
theorem zfK {l e l':List UInt8} (h:l=e++l') (hne:e≠ []):l'.length<l.length:=by
 have:=List.length_pos_iff.2 hne;rw [h,zzq1];omega
theorem zlz: ∀l x l',zcl l=some (x,l')->l'.length<l.length:=fun l x l' h=>zfK (ze6 h).1 (zfF _)
theorem zkk: ∀l x l',zcS l=some (x,l')->l'.length<l.length:=fun l x l' h=>zfK (zjr l x l' h).1 (fun e=>zfF _ (List.append_eq_nil_iff.1 e).1)
theorem zlf: ∀l x l',zdw l=some (x,l')->l'.length<l.length:=fun l x l' h=>zfK (zkw l x l' h).1 (fun e=>zfF _ (List.append_eq_nil_iff.1 e).1)
theorem RowsAt.ne {r:Nat} {l:List UInt8} {w:World} (h:RowsAt w) (hr:RdC r l w):0≠r:=by
 intro e;subst e;obtain⟨s,h1,-⟩:=hr;have h2:=(h.2 0 (by omega)).1;have h3:=zzq2 w _ 0 _ _ _ h1;exact absurd (h2.symm.trans h3) (by simp)
theorem RowsAt.grown {r:Nat} {l:List UInt8} {w w':World} (h:RowsAt w) (hr:RdC r l w) (hg:w.grownBy w' (some r)):RowsAt w':=by
 have hne:=h.ne hr;have hb:w'.heap[0]?=w.heap[0]?:=hg.block _ h.1 (fun e=>hne (Option.some.inj e))
 refine⟨zzW h.1 hg.size,fun k hk=>?_⟩;obtain⟨a,b,c⟩:=h.2 k hk;exact⟨(World.cell?_of_block hb).trans a,(World.cell?_of_block hb).trans b,(World.cell?_of_block hb).trans c⟩
theorem zpB (r:Nat) (l0:List UInt8) (w:World) (hrows:RowsAt w) (h:RdC r l0 w):
  Calls Tryz.prog 20 #[.pointer (some ⟨r,0,none⟩)] w (ziD r w (zcJ l0)):=by
 generalize hQ:ziD r w (zcJ l0)=Q at *;have HQ:=zzH hQ;clear hQ;have hmf: ∀(fn:Fn) (first cap:Array Value) (w:World),(Instr.makeFunc fn first cap).run Tryz.prog w= .ok (.func fn first cap) w:=fun _ _ _ _=>rfl
 have HD:Hid (zcJ l0=(zbx l0).bind fun o=>if 1<=o.1/\o.1<=40 then zhK o.1 (zw o.1).1.toNat o.2 else none):=zzH rfl;have S0:=KSt.start h (.cells #[.int .i64 0,.int .i64 0,.int .i64 0,.slice none 0 0,.int .i64 0,.int .i64 0,.int .i64 0,.string ⟨#[]⟩,.slice none 0 0,.slice none 0 0] 64);have hrw:=h.lt;have hRW:=hrows.grown h S0.gr;clear hrows;go_in;go_upto_region 1 with fail;generalize w.alloc _=w0 at *;have H1:=zbL r l0 _ S0.rd;rcases h1:vD l0 with _|⟨a,l1⟩
 ·rw [h1]at H1
  rw [show zbx l0=(vD l0).bind fun x=>some ((x.1:Int),x.2)from rfl,h1]at HD;go_wp2_with (go_at_call 12;refine H1.mono ?_;rintro e v1 ⟨rfl,hg1⟩);exact zz205
 rw [h1]at H1;rw [show zbx l0=(vD l0).bind fun x=>some ((x.1:Int),x.2)from rfl,h1]at HD;rw [zzq0,zzq0]at HD;have hrd0:=S0.rd;go_upto_region 2 with(go_at_call 12;refine H1.mono ?_;rintro e v1 ⟨rfl,hr1,hg1⟩;have S1:=S0.call hr1 hg1;have hRW1:=hRW.grown hrd0 hg1;clear S0 H1 hr1 hg1 hRW hrd0);have hba:=(zzR v1.heap.size v1).alloc (zzL _) (.cells #[.int .i64 (a:Int),.int .i64 0,.int .i64 0,.slice none 0 0,.int .i64 0,.int .i64 0,.int .i64 0,.string ⟨#[]⟩,.slice none 0 0,.slice none 0 0] 64);have hy:=heap_alloc_new v1 (.cells #[.int .i64 (a:Int),.int .i64 0,.int .i64 0,.slice none 0 0,.int .i64 0,.int .i64 0,.int .i64 0,.string ⟨#[]⟩,.slice none 0 0,.slice none 0 0] 64);have hlx:=zc S1.x;have hx:=(hba.block _ hlx).trans S1.x;have hrd:=S1.rd.below hba;have hgr:=zC S1.gr (hba.mono S1.gr.size);have hRW2:=hRW1.below hba;have hle:=S1.gr.size;clear S1 hba hRW1;generalize v1.alloc _=v2 at *;generalize v1.heap.size=Y at *;have hyl:=zc hy;have cy:v2.cell? ⟨Y,0,none⟩=some (.int .i64 (a:Int)):=zzq2 v2 Y 0 _ _ _ hy;generalize hop:(a:Int)=op at *;by_cases c:1<=op/\op<=40
 case neg=>
  rw [if_neg c]at HD;have hro:=zjX op c v2;go_wp2_with (go_at_call 33;refine hro.mono ?_;rintro e v3 ⟨rfl,hb3⟩);exact⟨rfl,by rw [<-HQ.out,HD.out];exact⟨rfl,zC (zC hgr (hb3.mono hgr.size)) ((zzR _ _).alloc (zzY hgr.size hb3.size) _)⟩⟩
 rw [if_pos c]at HD;have hro:=zhB c v2 hRW2;have hrl:= @zgI op;have hh:=hrl.1;rw [zrl]at HD;generalize(zw op).1.toNat=h at *;generalize(zw op).2.1.toNat=k1 at *;generalize(zw op).2.2.toNat=k2 at *;clear hrl hRW2;go_upto_region 3 with(go_at_call 33;refine hro.mono ?_;rintro e v3 ⟨rfl,hb3⟩);have hbr:=(zzR v3.heap.size v3).alloc (zzL _) (.cells #[.int .i64 (h:Nat),.int .i64 (k1:Nat),.int .i64 (k2:Nat)] 87);have hrr:=heap_alloc_new v3 (.cells #[.int .i64 (h:Nat),.int .i64 (k1:Nat),.int .i64 (k2:Nat)] 87);have hsz:(v3.alloc (.cells #[.int .i64 (h:Nat),.int .i64 (k1:Nat),.int .i64 (k2:Nat)] 87)).heap.size=v3.heap.size+1:=by simp
 have hbb:=hb3.trans (hbr.mono hb3.size)
 have S:ISt w r l1 w.heap.size Y v3.heap.size (v3.heap.size+1) h k1 k2 op ⟨0,0⟩ [] 0 0 0 ⟨#[]⟩ [] [] (v3.alloc (.cells #[.int .i64 (h:Nat),.int .i64 (k1:Nat),.int .i64 (k2:Nat)] 87)):=
  ⟨hrd.below hbb,zC hgr (hbb.mono hgr.size),(hbb.block _ (zc hx)).trans hx,hrr,hrw,rfl,hlx,zzW hyl hb3.size,Nat.lt_succ_self _,by rw [hsz];exact zzL _,none,0,none,0,none,0,(hbb.block _ hyl).trans hy,.inl rfl,.inl rfl,.inl rfl⟩
 clear hbr hrr hsz hbb hro hb3 hx hrd hgr hy hyl cy hlx hle hrw;generalize v3.alloc _=v4 at *;generalize v3.heap.size+1=B at *;generalize v3.heap.size=R at *;have HS:=zzH S;clear S;obtain⟨a1,e1⟩:=zcq h 1 hh (by decide);obtain⟨q1,hq1⟩: ∃q,zm h 1=q:=⟨_,rfl⟩;obtain⟨y1,hy1⟩: ∃y,h&&&1=y:=⟨_,rfl⟩;rw [hy1]at a1 e1;rw [hq1]at e1;have HA1:Hid (bits .and .i64 (h:Int) 1=(y1:Int)):=zzH a1;have HE1:=zzH e1;have HQ1:=zzH hq1;clear a1 e1 hq1 hy1;obtain⟨a2,e2⟩:=zcq h 2 hh (by decide);obtain⟨q2,hq2⟩: ∃q,zm h 2=q:=⟨_,rfl⟩;obtain⟨y2,hy2⟩: ∃y,h&&&2=y:=⟨_,rfl⟩;rw [hy2]at a2 e2;rw [hq2]at e2;have HA2:Hid (bits .and .i64 (h:Int) 2=(y2:Int)):=zzH a2;have HE2:=zzH e2;have HQ2:=zzH hq2;clear a2 e2 hq2 hy2;obtain⟨a4,e4⟩:=zcq h 4 hh (by decide);obtain⟨q4,hq4⟩: ∃q,zm h 4=q:=⟨_,rfl⟩;obtain⟨y4,hy4⟩: ∃y,h&&&4=y:=⟨_,rfl⟩;rw [hy4]at a4 e4;rw [hq4]at e4;have HA4:Hid (bits .and .i64 (h:Int) 4=(y4:Int)):=zzH a4;have HE4:=zzH e4;have HQ4:=zzH hq4;clear a4 e4 hq4 hy4;obtain⟨a8,e8⟩:=zcq h 8 hh (by decide);obtain⟨q8,hq8⟩: ∃q,zm h 8=q:=⟨_,rfl⟩;obtain⟨y8,hy8⟩: ∃y,h&&&8=y:=⟨_,rfl⟩;rw [hy8]at a8 e8;rw [hq8]at e8;have HA8:Hid (bits .and .i64 (h:Int) 8=(y8:Int)):=zzH a8;have HE8:=zzH e8;have HQ8:=zzH hq8;clear a8 e8 hq8 hy8;obtain⟨a16,e16⟩:=zcq h 16 hh (by decide);obtain⟨q16,hq16⟩: ∃q,zm h 16=q:=⟨_,rfl⟩;obtain⟨y16,hy16⟩: ∃y,h&&&16=y:=⟨_,rfl⟩;rw [hy16]at a16 e16;rw [hq16]at e16;have HA16:Hid (bits .and .i64 (h:Int) 16=(y16:Int)):=zzH a16;have HE16:=zzH e16;have HQ16:=zzH hq16;clear a16 e16 hq16 hy16;obtain⟨a32,e32⟩:=zcq h 32 hh (by decide);obtain⟨q32,hq32⟩: ∃q,zm h 32=q:=⟨_,rfl⟩;obtain⟨y32,hy32⟩: ∃y,h&&&32=y:=⟨_,rfl⟩;rw [hy32]at a32 e32;rw [hq32]at e32;have HA32:Hid (bits .and .i64 (h:Int) 32=(y32:Int)):=zzH a32;have HE32:=zzH e32;have HQ32:=zzH hq32;clear a32 e32 hq32 hy32;obtain⟨a64,e64⟩:=zcq h 64 hh (by decide);obtain⟨q64,hq64⟩: ∃q,zm h 64=q:=⟨_,rfl⟩;obtain⟨y64,hy64⟩: ∃y,h&&&64=y:=⟨_,rfl⟩;rw [hy64]at a64 e64;rw [hq64]at e64;have HA64:Hid (bits .and .i64 (h:Int) 64=(y64:Int)):=zzH a64;have HE64:=zzH e64;have HQ64:=zzH hq64;clear a64 e64 hq64 hy64;obtain⟨a128,e128⟩:=zcq h 128 hh (by decide);obtain⟨q128,hq128⟩: ∃q,zm h 128=q:=⟨_,rfl⟩;obtain⟨y128,hy128⟩: ∃y,h&&&128=y:=⟨_,rfl⟩;rw [hy128]at a128 e128;rw [hq128]at e128;have HA128:Hid (bits .and .i64 (h:Int) 128=(y128:Int)):=zzH a128;have HE128:=zzH e128;have HQ128:=zzH hq128;clear a128 e128 hq128 hy128;have hcR:=HS.out.rowc;have hac:=HA1.out;have hec:=HE1.out;go_upto_if 22 with fail;clear hcR hac hec;go_cut [] (fun wx=> ∃(d:RArg) (l2:List UInt8),Hid (zcJ l0=i2 h op d l2)/\Hid (ISt w r l2 w.heap.size Y R B h k1 k2 op d ([]) 0 0 0 (⟨#[]⟩) ([]) ([]) wx))
 case first=>
  unfold i1 at HD;rw [HQ1.out]at HD
  cases q1 with
  |false=>
   rw [zhk,zzq0]at HD;go_wp2_with fail;go_meet
   case rel=>exact⟨⟨0,0⟩,_,HD,HS⟩
  |true=>
   rw [zd8]at HD;have S:=HS.out;have H:=zgC r l1 _ S.rd;rcases h2:zcl l1 with _|⟨d2,l3⟩
   ·rw [h2]at H HD
    go_wp2_with (go_at_call 34;refine H.mono ?_;rintro e v5 ⟨rfl,hg5⟩);exact zz124
   rw [h2]at H HD;rw [zzq0]at HD;go_wp2_with (go_at_call 34;refine H.mono ?_;rintro e v5 ⟨rfl,hr5,hg5⟩;have S2:=S.call hr5 hg5;clear S;obtain⟨so,sc,co,cc,go,gc,hy,s1,s2,s3⟩:=S2.y;obtain⟨q0,q1,q2,q3,q4,q5,q6,q7,q8,q9,z0,z1,z2,z3,z4,z5,z6,z7,z8,z9⟩:=zbO hy);clear q0 q1 q2 q3 q4 q5 q6 q7 q8 q9 z0 z1 z2 z3 z4 z5 z6 z7 z8 z9;go_meet
   case rel=>exact⟨d2,l3,HD,zzH (S2.put ((OffB.set Y _ 1 _).trans (OffB.set Y _ 2 _)) (((zzR _ _).setCell (p:=⟨Y,1,none⟩) (zzL _) _).setCell (p:=⟨Y,2,none⟩) (zzL _) _) (zzS _ _ 2 _ _ _ (zzS _ _ 1 _ _ _ hy)) s1 s2 s3)⟩
 case rest=>
  clear HD HS;obtain⟨d,l,HD,HS⟩:=hcut;have hcR:=HS.out.rowc;have hac:=HA2.out;have hec:=HE2.out;go_upto_if 29 with fail;clear hcR hac hec;go_cut [] (fun wx=> ∃(ss:List RArg) (l2:List UInt8),Hid (zcJ l0=i3 h op d ss l2)/\Hid (ISt w r l2 w.heap.size Y R B h k1 k2 op d ss 0 0 0 (⟨#[]⟩) ([]) ([]) wx))
  case first=>
   unfold i2 at HD;rw [HQ2.out]at HD
   cases q2 with
   |false=>
    exact zz122
   |true=>
    rw [zd8]at HD;have S:=HS.out;have H:=zjS r l _ (fun l wx h=>zof r l wx h) zlz S.rd;rcases h2:zbh zcl l with _|⟨ss2,l3⟩
    ·rw [h2]at H HD
     go_wp2_with (go_at_call 35;refine H.mono ?_;rintro e v5 ⟨rfl,hg5⟩);exact zz124
    rw [h2]at H HD;rw [zzq0]at HD;have hBw:=S.hBw;go_wp2_with (go_at_call 35;refine H.mono ?_;rintro e v5 ⟨⟨so2,c2,rfl,hsl⟩,hr5,hg5⟩;have S2:=S.call hr5 hg5;clear S;obtain⟨so,sc,co,cc,go,gc,hy,s1,s2,s3⟩:=S2.y;obtain⟨q0,q1,q2,q3,q4,q5,q6,q7,q8,q9,z0,z1,z2,z3,z4,z5,z6,z7,z8,z9⟩:=zbO hy);clear q0 q1 q2 q3 q4 q5 q6 q7 q8 q9 z0 z1 z2 z3 z4 z5 z6 z7 z8 z9;go_meet
    case rel=>exact⟨ss2,l3,HD,zzH (S2.put (OffB.set Y _ 3 _) ((zzR _ _).setCell (p:=⟨Y,3,none⟩) (zzL _) _) (zzS _ _ 3 _ _ _ hy) (hsl.kept (zzL _) (fun _ _ _=>rfl) (fun b hb _=>zzY hBw hb) fun _ _ h=>h) s2 s3)⟩
  case rest=>
   clear HD HS;obtain⟨ss,l,HD,HS⟩:=hcut;have hcR:=HS.out.rowc;have hac:=HA4.out;have hec:=HE4.out;go_upto_if 38 with fail;clear hcR hac hec;go_cut [] (fun wx=> ∃(n:Int) (l2:List UInt8),Hid (zcJ l0=i4 h op d ss n l2)/\Hid (ISt w r l2 w.heap.size Y R B h k1 k2 op d ss 0 n 0 (⟨#[]⟩) ([]) ([]) wx))
   case first=>
    unfold i3 at HD;rw [HQ4.out]at HD
    cases q4 with
    |false=>
     exact zz123
    |true=>
     rw [zd8]at HD;have S:=HS.out;have H:=zbL r l _ S.rd;rcases h2:vD l with _|⟨n2,l3⟩
     ·exact zz121
     rw [h2]at H;rw [show zbx l=(vD l).bind fun x=>some ((x.1:Int),x.2)from rfl,h2]at HD;rw [zzq0,zzq0]at HD;go_wp2_with (go_at_call 12;refine H.mono ?_;rintro e v5 ⟨rfl,hr5,hg5⟩;have S2:=S.call hr5 hg5;clear S;obtain⟨so,sc,co,cc,go,gc,hy,s1,s2,s3⟩:=S2.y;obtain⟨q0,q1,q2,q3,q4,q5,q6,q7,q8,q9,z0,z1,z2,z3,z4,z5,z6,z7,z8,z9⟩:=zbO hy);clear q0 q1 q2 q3 q4 q5 q6 q7 q8 q9 z0 z1 z2 z3 z4 z5 z6 z7 z8 z9;go_meet
     case rel=>exact⟨((n2:Nat):Int),l3,HD,zzH (S2.put (OffB.set Y _ 5 _) ((zzR _ _).setCell (p:=⟨Y,5,none⟩) (zzL _) _) (zzS _ _ 5 _ _ _ hy) s1 s2 s3)⟩
   case rest=>
    clear HD HS;obtain⟨n,l,HD,HS⟩:=hcut;have hcR:=HS.out.rowc;have hac:=HA8.out;have hec:=HE8.out;go_upto_if 45 with fail;clear hcR hac hec;go_cut [] (fun wx=> ∃(nm:ByteArray) (l2:List UInt8),Hid (zcJ l0=i5 h op d ss n nm l2)/\Hid (ISt w r l2 w.heap.size Y R B h k1 k2 op d ss 0 n 0 nm ([]) ([]) wx))
    case first=>
     unfold i4 at HD;rw [HQ8.out]at HD
     cases q8 with
     |false=>
      rw [zhk,zzq0]at HD;go_wp2_with fail;go_meet
      case rel=>exact⟨⟨#[]⟩,_,HD,HS⟩
     |true=>
      rw [zd8]at HD;have S:=HS.out;have H:=zf3 r l _ S.rd;rcases h2:zcP l with _|⟨nm2,l3⟩
      ·rw [h2]at H HD
       go_wp2_with (go_at_call 11;refine H.mono ?_;rintro e v5 ⟨rfl,hg5⟩);exact zz124
      rw [h2]at H HD;rw [zzq0]at HD;go_wp2_with (go_at_call 11;refine H.mono ?_;rintro e v5 ⟨rfl,hr5,hg5⟩;have S2:=S.call hr5 hg5;clear S;obtain⟨so,sc,co,cc,go,gc,hy,s1,s2,s3⟩:=S2.y;obtain⟨q0,q1,q2,q3,q4,q5,q6,q7,q8,q9,z0,z1,z2,z3,z4,z5,z6,z7,z8,z9⟩:=zbO hy);clear q0 q1 q2 q3 q4 q5 q6 q7 q8 q9 z0 z1 z2 z3 z4 z5 z6 z7 z8 z9;go_meet
      case rel=>exact⟨nm2,l3,HD,zzH (S2.put (OffB.set Y _ 7 _) ((zzR _ _).setCell (p:=⟨Y,7,none⟩) (zzL _) _) (zzS _ _ 7 _ _ _ hy) s1 s2 s3)⟩
    case rest=>
     clear HD HS;obtain⟨nm,l,HD,HS⟩:=hcut;have hcR:=HS.out.rowc;have hac:=HA16.out;have hec:=HE16.out;go_upto_if 52 with fail;clear hcR hac hec;go_cut [] (fun wx=> ∃(cs:List RCase) (l2:List UInt8),Hid (zcJ l0=i6 h op d ss n nm cs l2)/\Hid (ISt w r l2 w.heap.size Y R B h k1 k2 op d ss 0 n 0 nm cs ([]) wx))
     case first=>
      unfold i5 at HD;rw [HQ16.out]at HD
      cases q16 with
      |false=>
       exact zz122
      |true=>
       rw [zd8]at HD;have S:=HS.out;have H:=zjs r l _ (fun l wx h=>zns r l wx h) zkk S.rd;rcases h2:zbh zcS l with _|⟨cs2,l3⟩
       ·rw [h2]at H HD
        go_wp2_with (go_at_call 36;refine H.mono ?_;rintro e v5 ⟨rfl,hg5⟩);exact zz124
       rw [h2]at H HD;rw [zzq0]at HD;have hBw:=S.hBw;go_wp2_with (go_at_call 36;refine H.mono ?_;rintro e v5 ⟨⟨so2,c2,rfl,hsl⟩,hr5,hg5⟩;have S2:=S.call hr5 hg5;clear S;obtain⟨so,sc,co,cc,go,gc,hy,s1,s2,s3⟩:=S2.y;obtain⟨q0,q1,q2,q3,q4,q5,q6,q7,q8,q9,z0,z1,z2,z3,z4,z5,z6,z7,z8,z9⟩:=zbO hy);clear q0 q1 q2 q3 q4 q5 q6 q7 q8 q9 z0 z1 z2 z3 z4 z5 z6 z7 z8 z9;go_meet
       case rel=>exact⟨cs2,l3,HD,zzH (S2.put (OffB.set Y _ 8 _) ((zzR _ _).setCell (p:=⟨Y,8,none⟩) (zzL _) _) (zzS _ _ 8 _ _ _ hy) s1 (hsl.kept (zzL _) (fun _ _ _=>rfl) (fun b hb _=>zzY hBw hb) fun _ _ h=>h) s3)⟩
     case rest=>
      clear HD HS;obtain⟨cs,l,HD,HS⟩:=hcut;have hcR:=HS.out.rowc;have hac:=HA32.out;have hec:=HE32.out;go_upto_if 61 with fail;clear hcR hac hec;go_cut [] (fun wx=> ∃(gs:List RSeg) (l2:List UInt8),Hid (zcJ l0=i7 h op d ss n nm cs gs l2)/\Hid (ISt w r l2 w.heap.size Y R B h k1 k2 op d ss 0 n 0 nm cs gs wx))
      case first=>
       unfold i6 at HD;rw [HQ32.out]at HD
       cases q32 with
       |false=>
        exact zz122
       |true=>
        rw [zd8]at HD;have S:=HS.out;have H:=zko r l _ (fun l wx h=>zqw r l wx h) zlf S.rd;rcases h2:zbh zdw l with _|⟨gs2,l3⟩
        ·rw [h2]at H HD
         go_wp2_with (go_at_call 38;refine H.mono ?_;rintro e v5 ⟨rfl,hg5⟩);exact zz124
        rw [h2]at H HD;rw [zzq0]at HD;have hBw:=S.hBw;go_wp2_with (go_at_call 38;refine H.mono ?_;rintro e v5 ⟨⟨so2,c2,rfl,hsl⟩,hr5,hg5⟩;have S2:=S.call hr5 hg5;clear S;obtain⟨so,sc,co,cc,go,gc,hy,s1,s2,s3⟩:=S2.y;obtain⟨q0,q1,q2,q3,q4,q5,q6,q7,q8,q9,z0,z1,z2,z3,z4,z5,z6,z7,z8,z9⟩:=zbO hy);clear q0 q1 q2 q3 q4 q5 q6 q7 q8 q9 z0 z1 z2 z3 z4 z5 z6 z7 z8 z9;go_meet
        case rel=>exact⟨gs2,l3,HD,zzH (S2.put (OffB.set Y _ 9 _) ((zzR _ _).setCell (p:=⟨Y,9,none⟩) (zzL _) _) (zzS _ _ 9 _ _ _ hy) s1 s2 (hsl.kept (zzL _) (fun _ _ _=>rfl) (fun b hb _=>zzY hBw hb) fun _ _ h=>h))⟩
      case rest=>
       clear HD HS;obtain⟨gs,l,HD,HS⟩:=hcut;have hcR:=HS.out.rowc;have hac:=HA64.out;have hec:=HE64.out;go_upto_if 70 with fail;clear hcR hac hec;go_cut [] (fun wx=> ∃(tg:Int) (l2:List UInt8),Hid (zcJ l0=i8 h op d ss n nm cs gs tg l2)/\Hid (ISt w r l2 w.heap.size Y R B h k1 k2 op d ss tg n 0 nm cs gs wx))
       case first=>
        unfold i7 at HD;rw [HQ64.out]at HD
        cases q64 with
        |false=>
         exact zz123
        |true=>
         rw [zd8]at HD;have S:=HS.out;have H:=zbL r l _ S.rd;rcases h2:vD l with _|⟨tg2,l3⟩
         ·exact zz121
         rw [h2]at H;rw [show zbx l=(vD l).bind fun x=>some ((x.1:Int),x.2)from rfl,h2]at HD;rw [zzq0,zzq0]at HD;go_wp2_with (go_at_call 12;refine H.mono ?_;rintro e v5 ⟨rfl,hr5,hg5⟩;have S2:=S.call hr5 hg5;clear S;obtain⟨so,sc,co,cc,go,gc,hy,s1,s2,s3⟩:=S2.y;obtain⟨q0,q1,q2,q3,q4,q5,q6,q7,q8,q9,z0,z1,z2,z3,z4,z5,z6,z7,z8,z9⟩:=zbO hy);clear q0 q1 q2 q3 q4 q5 q6 q7 q8 q9 z0 z1 z2 z3 z4 z5 z6 z7 z8 z9;go_meet
         case rel=>exact⟨((tg2:Nat):Int),l3,HD,zzH (S2.put (OffB.set Y _ 4 _) ((zzR _ _).setCell (p:=⟨Y,4,none⟩) (zzL _) _) (zzS _ _ 4 _ _ _ hy) s1 s2 s3)⟩
       case rest=>
        clear HD HS;obtain⟨tg,l,HD,HS⟩:=hcut;have hcR:=HS.out.rowc;have hac:=HA128.out;have hec:=HE128.out;go_upto_if 77 with fail;clear hcR hac hec;go_cut [] (fun wx=> ∃(lv:Int) (l2:List UInt8),Hid (zcJ l0=some (⟨op,d,ss,tg,n,lv,nm,cs,gs⟩,l2))/\Hid (ISt w r l2 w.heap.size Y R B h k1 k2 op d ss tg n lv nm cs gs wx))
        case first=>
         unfold i8 at HD;rw [HQ128.out]at HD
         cases q128 with
         |false=>
          exact zz123
         |true=>
          rw [zd8]at HD;have S:=HS.out;have H:=zbL r l _ S.rd;rcases h2:vD l with _|⟨lv2,l3⟩
          ·exact zz121
          rw [h2]at H;rw [show zbx l=(vD l).bind fun x=>some ((x.1:Int),x.2)from rfl,h2]at HD;rw [zzq0,zzq0]at HD;go_wp2_with (go_at_call 12;refine H.mono ?_;rintro e v5 ⟨rfl,hr5,hg5⟩;have S2:=S.call hr5 hg5;clear S;obtain⟨so,sc,co,cc,go,gc,hy,s1,s2,s3⟩:=S2.y;obtain⟨q0,q1,q2,q3,q4,q5,q6,q7,q8,q9,z0,z1,z2,z3,z4,z5,z6,z7,z8,z9⟩:=zbO hy);clear q0 q1 q2 q3 q4 q5 q6 q7 q8 q9 z0 z1 z2 z3 z4 z5 z6 z7 z8 z9;go_meet
          case rel=>exact⟨((lv2:Nat):Int),l3,HD,zzH (S2.put (OffB.set Y _ 6 _) ((zzR _ _).setCell (p:=⟨Y,6,none⟩) (zzL _) _) (zzS _ _ 6 _ _ _ hy) s1 s2 s3)⟩
        case rest=>
         clear HD HS;obtain⟨lv,l,HD,HS⟩:=hcut;have S:=HS.out;clear HS;obtain⟨so,sc,co,cc,go,gc,hy,s1,s2,s3⟩:=S.y;have hx:=S.x;have hXB:w.heap.size<B:=by have:=S.hY;have:=S.hR;have:=S.hB;omega
         have HC:=zzH (And.intro s1 (And.intro s2 (And.intro s3 hXB)));have HSS:=zzH S;clear s1 s2 s3 hXB S hmf hop c hh;clear HA1 HA2 HA4 HA8 HA16 HA32 HA64 HA128 HE1 HE2 HE4 HE8 HE16 HE32 HE64 HE128 HQ1 HQ2 HQ4 HQ8 HQ16 HQ32 HQ64 HQ128;have HY:=zzH hy;have HX:=zzH hx;clear hy hx;go_upto_region 21 with fail;rename_i K hK;refine wp_region_list ?_;refine wpList_load_row rfl 64 (.tmp 3) rfl Y rfl 64 _ _ _ HY.out Tryz.underlying64 rfl (by kernel_rfl) ?_;refine wpList_store_row rfl 64 (.tmp 2) (.tmp 81) rfl w.heap.size #[.int .i64 op,.int .i64 d.kind,.int .i64 d.n,.slice so ss.length sc,.int .i64 tg,.int .i64 n,.int .i64 lv,.string nm,.slice co cs.length cc,.slice go gs.length gc] rfl rfl 64 _ HX.out (by kernel_rfl) rfl (by simp [Value.oneCell']) ?_;exact zz120
theorem zj2:(Tryz.prog.info? 64).map (fun i=>(i.zero,i.size,i.bytes))=some (some (.agg #[.int .i64 0,.int .i64 0,.int .i64 0,.slice none 0 0,.int .i64 0,.int .i64 0,.int .i64 0,.string ⟨#[]⟩,.slice none 0 0,.slice none 0 0]),10,136):=by kernel_rfl
theorem zkt (r:Nat) (l0:List UInt8) (w:World) (hrows:RowsAt w) (HO: ∀(l:List UInt8) (wx:World),RowsAt wx->RdC r l wx->Calls Tryz.prog 20 #[.pointer (some ⟨r,0,none⟩)] wx (ziD r wx (zcJ l)))
  (HL: ∀l x l',zcJ l=some (x,l')->l'.length<l.length) (h:RdC r l0 w):
  Calls Tryz.prog 19 #[.pointer (some ⟨r,0,none⟩),.func (.func 20) #[.pointer (some ⟨r,0,none⟩)] #[]] w (zd1 r w 10 Way.ins (zbh zcJ l0)):=by
 generalize hQ:zd1 r w 10 Way.ins (zbh zcJ l0)=Q at *;have HQ:=zzH hQ;clear hQ;have HOO:=zzH HO;have HLL:=zzH HL;clear HO HL;have HN:=zbL r l0 w h;have HD:Hid (zbh zcJ l0=(vD l0).bind fun x=>zb3 zcJ x.1 x.2):=zzH rfl;have hrw:=h.lt;have hlen0:=h.len;go_in;rcases h1:vD l0 with _|⟨n,l1⟩
 ·exact zz113
 rw [h1]at HN HD;rw [zzq0]at HD;have hn:=zcE h1;go_wp2_with (go_at_call 12;refine HN.mono ?_;rintro e w1 ⟨rfl,hr1,hg1⟩);go_loopw [6,5] (fun nv lv wr=> ∃(k:Nat) (l:List UInt8) (ts:List RIns),nv= .int .i64 k/\k+ts.length=n/\ts.length+l.length<=l0.length/\Hid (zbh zcJ l0=(zb3 zcJ k l).bind fun y=>some (ts++y.1,y.2))/\RdC r l wr/\AccG 64 10 Way.ins w.heap.size lv ts wr/\w.grownBy wr (some r)) (fun nv _ _=>(intOf nv).toNat)
 case atStart=>exact⟨n,l1,[],rfl,rfl,by simp;omega,zzH (by rw [HD.out];cases zb3 zcJ n l1<;>rfl),hr1,AccG.nil _,hg1⟩
 case round=>
  obtain⟨k,l,ts,rfl,hk,hll,HI,hrd,hacc,hg⟩:=hrel
  cases k with
  |zero=>
   exact zz114
  |succ k=>
   obtain⟨ao,cap0,rfl,-⟩:=hacc.sl;have hpos:((k+1:Nat):Int)>0:=by omega
   have HT:=HOO.out l wr (hrows.grown h hg) hrd;rcases h2:zcJ l with _|⟨x,l2⟩
   ·rw [h2]at HT
    go_wp2_with (go_at_call 20;refine HT.mono ?_;rintro e w2 ⟨rfl,hg2⟩);exact zz116
   rw [h2]at HT;have hlt:=HLL.out l x l2 h2;obtain⟨i0,hi,hz0,hz1,hz2⟩:=info_parts zj2
   go_wp2_with (first
    |(go_at_call 20;refine HT.mono ?_;rintro e w2 ⟨⟨sx,sxc,cx,cxc,gx,gxc,rfl,hval⟩,hr2,hg2⟩;obtain⟨xs,ho,hR⟩:=((hacc.grown hg2 hrw).below ((zzR _ _).alloc (zzL _) (.cells #[.int .i64 x.op,.int .i64 x.dst.kind,.int .i64 x.dst.n,.slice sx x.src.length sxc,.int .i64 x.to,.int .i64 x.n,.int .i64 x.live,.string x.name,.slice cx x.cases.length cxc,.slice gx x.segs.length gxc] 64))).own)
    |(at_builtin;refine wpList_append_lies _ rfl (.tmp 13) (.tmp 16) 26 rfl w.heap.size 64 i0 _ 10 136 Tryz.underlying26 hi hz0 hz1 hz2 rfl (by decide) _ ts.length xs rfl ho ⟨w2.heap.size,0,none⟩ 1 1 (#[.int .i64 x.op,.int .i64 x.dst.kind,.int .i64 x.dst.n,.slice sx x.src.length sxc,.int .i64 x.to,.int .i64 x.n,.int .i64 x.live,.string x.name,.slice cx x.cases.length cxc,.slice gx x.segs.length gxc]).toList rfl rfl (World.news_of_block (heap_alloc_new _ _)) (by simp [Value.oneCell']) (by decide) (by unfold maxLen;omega) (by omega) (by have:=hg.size;have:=hg2.size;simp;omega) _ rfl ?_;intro g cap w3 ho3 hg3 hat hlt3))
   have ho0: ∀k,(Value.slice ao ts.length cap0).ownBlock=some k->w.heap.size<=k/\k<wr.heap.size:=by
    exact zz87
   have hb1:=(zzR w2.heap.size w2).alloc (zzL _) (.cells #[.int .i64 x.op,.int .i64 x.dst.kind,.int .i64 x.dst.n,.slice sx x.src.length sxc,.int .i64 x.to,.int .i64 x.n,.int .i64 x.live,.string x.name,.slice cx x.cases.length cxc,.slice gx x.segs.length gxc] 64)
   have hacc2:AccG 64 10 Way.ins w.heap.size (.slice (some ⟨g,0,none⟩) (ts.length+1) cap) (ts++ [x]) w3:=
    AccG.app (fun k e=>(ho0 k e).2) hR (Way.below _ hb1 hval) rfl hg.size hg3 (fun k e=>by
     have e:g=k:=Option.some.inj e;subst e;exact hat.imp id fun h=>Nat.le_of_eq h.symm) ho3
   have hr3:RdC r l2 w3:=by
    exact zz115
   have hgw:w.grownBy w3 (some r):=zcF (zC (zh hg hg2) (hb1.mono (zzY hg.size hg2.size))) hg3 (fun k e=>(ho0 k e).1);go_wp2_with fail;go_roundw
   case rel=>exact⟨k,l2,ts++ [x],by go_num,by rw [zzq1];simp;omega,by rw [zzq1];simp;omega,zzH (by
    rw [HI.out,zdH,h2,zzq0]
    cases zb3 zcJ k l2 with
    |none=>rfl
    |some y=>simp only [zzX5]),hr3,hacc2,hgw⟩
   case measure=>simp [intOf]
theorem zlk: ∀l x l',zcJ l=some (x,l')->l'.length<l.length:=fun l x l' h=>zfK (zkv l x l' h).1 (fun e=>zfF _ (List.append_eq_nil_iff.1 e).1)
theorem zlH: ∀l x l',zdz l=some (x,l')->l'.length<l.length:=fun l x l' h=>zfK (zjP l x l' h).1 (zhO _)
theorem zkf: ∀l x l',zcU l=some (x,l')->l'.length<l.length:=fun l x l' h=>zfK (zi9 l x l' h).1 (fun e=>zhO _ (List.append_eq_nil_iff.1 e).1)
theorem zor: ∀l x l',fnD l=some (x,l')->l'.length<l.length:=fun l x l' h=>zfK (zls l x l' h).1 (fun e=>zfF _ (List.append_eq_nil_iff.1 e).1)
def zf9:Array Value:=#[.string ⟨#[]⟩,.int .i64 0,.slice none 0 0,.slice none 0 0,.slice none 0 0,.slice none 0 0]
structure Out2 (X:Nat) (w:World) (row:Array Value) (e:Value):Prop where
 x:w.heap[X]?=some (.cells row 28 (0,0))
 e:w.heap[X+1]?=some (.cells #[e] 29 (0,0))
theorem zbq {w:World} {B:Nat} {v0 v1 v2 v3 v4 v5:Value} (h:w.heap[B]?=some (.cells #[v0,v1,v2,v3,v4,v5] 28 (0,0))):
  w.cell? ⟨B,0,none⟩=some v0/\w.cell? ⟨B,1,none⟩=some v1/\w.cell? ⟨B,2,none⟩=some v2/\w.cell? ⟨B,3,none⟩=some v3/\w.cell? ⟨B,4,none⟩=some v4/\w.cell? ⟨B,5,none⟩=some v5/\(w.frozen? ⟨B,0,none⟩=false/\w.frozen? ⟨B,1,none⟩=false/\w.frozen? ⟨B,2,none⟩=false/\w.frozen? ⟨B,3,none⟩=false/\w.frozen? ⟨B,4,none⟩=false/\w.frozen? ⟨B,5,none⟩=false):=by
 have hc:=fun j=>zzq2 w B j _ _ _ h
 have hf:=fun j=>zzq9 w B j _ _ h
 exact⟨hc 0,hc 1,hc 2,hc 3,hc 4,hc 5,hf 0,hf 1,hf 2,hf 3,hf 4,hf 5⟩
theorem zo1 {w:World} {B:Nat} {a0 a1 a2 a3 a4 a5:Value} (v0 v1 v2 v3 v4 v5:Value) (h:w.heap[B]?=some (.cells #[a0,a1,a2,a3,a4,a5] 28 (0,0))):
  ((((((w.setCell ⟨B,0,none⟩ v0).setCell ⟨B,1,none⟩ v1).setCell ⟨B,2,none⟩ v2).setCell ⟨B,3,none⟩ v3).setCell ⟨B,4,none⟩ v4).setCell ⟨B,5,none⟩ v5).heap[B]?=some (.cells #[v0,v1,v2,v3,v4,v5] 28 (0,0)):=by
 have h0:(w.setCell ⟨B,0,none⟩ v0).heap[B]?=some (.cells #[v0,a1,a2,a3,a4,a5] 28 (0,0)):=zzS _ _ 0 _ _ v0 h
 have h1:((w.setCell ⟨B,0,none⟩ v0).setCell ⟨B,1,none⟩ v1).heap[B]?=some (.cells #[v0,v1,a2,a3,a4,a5] 28 (0,0)):=zzS _ _ 1 _ _ v1 h0
 have h2:(((w.setCell ⟨B,0,none⟩ v0).setCell ⟨B,1,none⟩ v1).setCell ⟨B,2,none⟩ v2).heap[B]?=some (.cells #[v0,v1,v2,a3,a4,a5] 28 (0,0)):=zzS _ _ 2 _ _ v2 h1
 have h3:((((w.setCell ⟨B,0,none⟩ v0).setCell ⟨B,1,none⟩ v1).setCell ⟨B,2,none⟩ v2).setCell ⟨B,3,none⟩ v3).heap[B]?=some (.cells #[v0,v1,v2,v3,a4,a5] 28 (0,0)):=zzS _ _ 3 _ _ v3 h2
 have h4:(((((w.setCell ⟨B,0,none⟩ v0).setCell ⟨B,1,none⟩ v1).setCell ⟨B,2,none⟩ v2).setCell ⟨B,3,none⟩ v3).setCell ⟨B,4,none⟩ v4).heap[B]?=some (.cells #[v0,v1,v2,v3,v4,a5] 28 (0,0)):=zzS _ _ 4 _ _ v4 h3
 have h5:((((((w.setCell ⟨B,0,none⟩ v0).setCell ⟨B,1,none⟩ v1).setCell ⟨B,2,none⟩ v2).setCell ⟨B,3,none⟩ v3).setCell ⟨B,4,none⟩ v4).setCell ⟨B,5,none⟩ v5).heap[B]?=some (.cells #[v0,v1,v2,v3,v4,v5] 28 (0,0)):=zzS _ _ 5 _ _ v5 h4
 exact h5
theorem OffB.six (X:Nat) (wx:World) (v0 v1 v2 v3 v4 v5:Value):OffB X wx ((((((wx.setCell ⟨X,0,none⟩ v0).setCell ⟨X,1,none⟩ v1).setCell ⟨X,2,none⟩ v2).setCell ⟨X,3,none⟩ v3).setCell ⟨X,4,none⟩ v4).setCell ⟨X,5,none⟩ v5):=(((((OffB.set X wx 0 v0).trans (OffB.set X _ 1 v1)).trans (OffB.set X _ 2 v2)).trans (OffB.set X _ 3 v3)).trans (OffB.set X _ 4 v4)).trans (OffB.set X _ 5 v5)
theorem zgP {w wx:World} {X:Nat} (h:Below X w wx) (v0 v1 v2 v3 v4 v5:Value):Below X w ((((((wx.setCell ⟨X,0,none⟩ v0).setCell ⟨X,1,none⟩ v1).setCell ⟨X,2,none⟩ v2).setCell ⟨X,3,none⟩ v3).setCell ⟨X,4,none⟩ v4).setCell ⟨X,5,none⟩ v5):=((((((h.setCell (p:=⟨X,0,none⟩) (zzL _) v0).setCell (p:=⟨X,1,none⟩) (zzL _) v1).setCell (p:=⟨X,2,none⟩) (zzL _) v2).setCell (p:=⟨X,3,none⟩) (zzL _) v3).setCell (p:=⟨X,4,none⟩) (zzL _) v4).setCell (p:=⟨X,5,none⟩) (zzL _) v5)
theorem Out2.six {X:Nat} {w:World} {a0 a1 a2 a3 a4 a5 e:Value} (h:Out2 X w #[a0,a1,a2,a3,a4,a5] e) (v0 v1 v2 v3 v4 v5 e2:Value):Out2 X (((((((w.setCell ⟨X,0,none⟩ v0).setCell ⟨X,1,none⟩ v1).setCell ⟨X,2,none⟩ v2).setCell ⟨X,3,none⟩ v3).setCell ⟨X,4,none⟩ v4).setCell ⟨X,5,none⟩ v5).setCell ⟨X+1,0,none⟩ e2) #[v0,v1,v2,v3,v4,v5] e2:=
 ⟨((OffB.set (X+1) _ 0 e2).2 _ (by omega)).trans (zo1 _ _ _ _ _ _ h.x),zzS _ _ 0 _ _ e2 (((OffB.six X w _ _ _ _ _ _).2 _ (by omega)).trans h.e)⟩
theorem Out2.below {X:Nat} {w w':World} {row:Array Value} {e:Value} (h:Out2 X w row e) (hb:Below w.heap.size w w'):Out2 X w' row e:=
 ⟨(hb.block _ (zc h.x)).trans h.x,(hb.block _ (zc h.e)).trans h.e⟩
theorem Out2.grown {X:Nat} {w w':World} {row:Array Value} {e:Value} (h:Out2 X w row e) (hg:w.grownBy w' (some (X+2))):Out2 X w' row e:=
 ⟨(hg.block _ (zc h.x) (by simp)).trans h.x,(hg.block _ (zc h.e) (by simp)).trans h.e⟩
theorem zjV (a b:Value) (w:World):
  CallsD Tryz.prog 10 #[a,b] .returning w fun e u' w'=>e= .returned (.tuple #[])/\u'= .returning/\w'=w:=by
 refine callsD_of_wpS Tryz.func10 rfl fun c₀ cs hu=>?_
 apply wpS_seq;generalize hK:Exit.thenS _ _=K;apply wpS_region;simp [wpOpsS,go_sem,recoverD,hu,Tryz.ntmps10];subst hK;simp only [Exit.thenS];refine wpS_of_wp ?_;go_wp2_with fail
 cases c₀
 simp_all [bodyPostS,results,Tryz.results10]
theorem zgS (X:Nat) (v0 v1 v2 v3 v4 v5 e:Value) (older:List PanicEntry) (w:World) (h:Out2 X w #[v0,v1,v2,v3,v4,v5] e):
  CallsD Tryz.prog 10 #[.pointer (some ⟨X,0,none⟩),.pointer (some ⟨X+1,0,none⟩)] (.panicking ({v:=.iface 38 (.agg #[]),recovered:=false}::older)) w fun e u' w'=>
   e= .returned (.tuple #[])/\u'= .panicking ({v:=.iface 38 (.agg #[]),recovered:=true}::older)/\Out2 X w' zf9 (.int .i64 6)/\Below X w w':=by
 have hta: ∀wx:World,(Instr.typeAssert (Value.iface 38 (.agg #[])) 20 38 true).run Tryz.prog wx= .ok (.tuple #[.agg #[],.bool true]) wx:=fun wx=>by kernel_rfl
 refine callsD_of_wpS Tryz.func10 rfl fun c₀ cs hu=>?_
 apply wpS_seq;generalize hK:Exit.thenS _ _=K;apply wpS_region;simp [wpOpsS,go_sem,recoverD,hu,Tryz.ntmps10];subst hK;simp only [Exit.thenS];refine wpS_of_wp ?_;have hx:=zc h.x;have hx1:=zc h.e;have hb:Below w.heap.size w (w.alloc (.cells #[] 38)):=(zzR _ _).alloc (zzL _) _;have h2:Out2 X (w.alloc (.cells #[] 38)) #[v0,v1,v2,v3,v4,v5] e:=h.below hb;go_upto_region 5 with fail;generalize w.alloc _=w1 at *;clear h;obtain⟨c0,c1,c2,c3,c4,c5,d0,d1,d2,d3,d4,d5⟩:=zbq h2.x;have k1:w1.cell? ⟨X+1,0,none⟩=some e:=zzq2 w1 _ 0 _ _ _ h2.e;have f1:w1.frozen? ⟨X+1,0,none⟩=false:=zzq9 w1 _ 0 _ _ h2.e;have hO:=h2.six (.string ⟨#[]⟩) (.int .i64 0) (.slice none 0 0) (.slice none 0 0) (.slice none 0 0) (.slice none 0 0) (.int .i64 6);have hB:Below X w _:=(zgP (hb.mono (Nat.le_of_lt hx)) (.string ⟨#[]⟩) (.int .i64 0) (.slice none 0 0) (.slice none 0 0) (.slice none 0 0) (.slice none 0 0)).setCell (p:=⟨X+1,0,none⟩) (show X<=X+1 by omega) (.int .i64 6);go_wp2_with fail;clear h2 c0 c1 c2 c3 c4 c5 d0 d1 d2 d3 d4 d5 k1 f1;generalize World.setCell _ ⟨X+1,0,none⟩ _=w9 at *;simp [bodyPostS,results,Tryz.results10];exact⟨hO,hB⟩
def zhU (s:ByteArray) (w:World) (e:Ending) (w':World):Prop:=
 (match zcX s.data.toList with
 |none=>e= .returned (.tuple #[.agg zf9,.int .i64 6])
 |some u=> ∃lo lc fo fc go gc co cc,e= .returned (.tuple #[.agg #[.string u.mdl,.int .i64 u.vsn,.slice lo u.lits.length lc,.slice fo u.funcs.length fc,.slice go u.funs.length gc,.slice co u.code.length cc],.int .i64 0])/\UP w' u lo fo go co/\SlAt w' 9 (TmAt w' 2000) lo u.lits)/\Below w.heap.size w w'
theorem zea {fn:Func} {p u:Tmp} {ty t2:TypeId} (h:fn.results=#[.cell p ty,.cell u t2]) (tmps:Array Value) (P:Program) (w:World) (X:Nat) (cs:Array Value) (e:Value) (fs:Array Field)
  (hp:tmps.getD p undef= .pointer (some ⟨X,0,none⟩)) (hu:tmps.getD u undef= .pointer (some ⟨X+1,0,none⟩)) (ho:Out2 X w cs e)
  (hty:P.underlying ty=some (.struct fs)) (hi:(P.info? ty).map (·.size)=some cs.size) (h2:(loadVar t2 ⟨X+1,0,none⟩).run P w= .ok e w):
  (results fn tmps).run P w= .ok (.tuple #[.agg cs,e]) w:=by
 have hl:=run_loadVar_row w X 28 ty cs (0,0) (.struct fs) ho.x hty rfl hi;have hp':tmps[p]?.getD undef= .pointer (some ⟨X,0,none⟩):=by simpa using hp
 have hu':tmps[u]?.getD undef= .pointer (some ⟨X+1,0,none⟩):=by simpa using hu
 simp [results,h,hp',hu',asAddr,hl,h2]
theorem zgU (w:World) (o0 o1 o2:Obj):(((w.alloc o0).alloc o1).alloc o2).heap[w.heap.size]?=some o0/\(((w.alloc o0).alloc o1).alloc o2).heap[w.heap.size+1]?=some o1/\(((w.alloc o0).alloc o1).alloc o2).heap[w.heap.size+2]?=some o2:=by
 have n0:=heap_alloc_new w o0;have n1:=heap_alloc_new (w.alloc o0) o1;have n2:=heap_alloc_new ((w.alloc o0).alloc o1) o2;rw [show(w.alloc o0).heap.size=w.heap.size+1 by simp]at n1;rw [show((w.alloc o0).alloc o1).heap.size=w.heap.size+2 by simp]at n2;refine⟨?_,?_,n2⟩
 ·rw [Below.heap_alloc _ _ _ (by simp;omega),Below.heap_alloc _ _ _ (by simp)];exact n0
 ·rw [Below.heap_alloc _ _ _ (by simp)];exact n1
structure GSt (w0:World) (X:Nat) (l:List UInt8) (m:ByteArray) (v:Int) (a:List Tm) (b:List RFunc) (c:List RFun) (d:List RIns) (wx:World):Prop where
 rd:RdC (X+2) l wx
 bel:Below X w0 wx
 y: ∃lo lc fo fc go gc co cc,Out2 X wx #[.string m,.int .i64 v,.slice lo a.length lc,.slice fo b.length fc,.slice go c.length gc,.slice co d.length cc] (.int .i64 0)/\SlIn wx (X+3<= ·) 9 (Way.tm.on wx (X+3<= ·)) lo a/\SlIn wx (X+3<= ·) 4 zc7 fo b/\SlIn wx (X+3<= ·) 3 zbB go c/\SlIn wx (X+3<= ·) 10 (Way.ins.on wx (X+3<= ·)) co d
theorem GSt.lt {w0:World} {X:Nat} {l:List UInt8} {m:ByteArray} {v:Int} {a:List Tm} {b:List RFunc} {c:List RFun} {d:List RIns} {wx:World} (S:GSt w0 X l m v a b c d wx):X+2<wx.heap.size:=S.rd.lt
theorem GSt.call {w0:World} {X:Nat} {l:List UInt8} {m:ByteArray} {v:Int} {a:List Tm} {b:List RFunc} {c:List RFun} {d:List RIns} {wx wy:World} (S:GSt w0 X l m v a b c d wx) {l':List UInt8} (hr:RdC (X+2) l' wy) (hg:wx.grownBy wy (some (X+2))):GSt w0 X l' m v a b c d wy:=by
 obtain⟨lo,lc,fo,fc,go,gc,co,cc,ho,s1,s2,s3,s4⟩:=S.y;have hlt:=S.lt;have hk: ∀b,X+3<=b->b<wx.heap.size->wy.heap[b]?=wx.heap[b]?:=fun b hb hl=>hg.block b hl fun e=>by have:=Option.some.inj e;omega
 exact⟨hr,zct S.bel hg (by omega) (by omega),lo,lc,fo,fc,go,gc,co,cc,ho.grown hg,s1.onKeep hg.size hk (fun b h _=>h),s2.kept hg.size hk (fun b h _=>h) (fun _ _ h=>h),s3.kept hg.size hk (fun b h _=>h) (fun _ _ h=>h),s4.onKeep hg.size hk (fun b h _=>h)⟩
theorem GSt.put {w0:World} {X:Nat} {l:List UInt8} {m:ByteArray} {v:Int} {a:List Tm} {b:List RFunc} {c:List RFun} {d:List RIns} {wx wy:World} (S:GSt w0 X l m v a b c d wx) (hof:OffB X wx wy) (hbl:Below X wx wy) {m':ByteArray} {v':Int} {a':List Tm} {b':List RFunc} {c':List RFun} {d':List RIns}
  {lo:Option Addr} {lc:Nat} {fo:Option Addr} {fc:Nat} {go:Option Addr} {gc:Nat} {co:Option Addr} {cc:Nat} (hx:wy.heap[X]?=some (.cells #[.string m',.int .i64 v',.slice lo a'.length lc,.slice fo b'.length fc,.slice go c'.length gc,.slice co d'.length cc] 28 (0,0))) (he:wx.heap[X+1]?=some (.cells #[.int .i64 0] 29 (0,0)))
  (s1:SlIn wx (X+3<= ·) 9 (Way.tm.on wx (X+3<= ·)) lo a') (s2:SlIn wx (X+3<= ·) 4 zc7 fo b') (s3:SlIn wx (X+3<= ·) 3 zbB go c') (s4:SlIn wx (X+3<= ·) 10 (Way.ins.on wx (X+3<= ·)) co d'):GSt w0 X l m' v' a' b' c' d' wy:=by
 have hk: ∀b,X+3<=b->b<wx.heap.size->wy.heap[b]?=wx.heap[b]?:=fun b hb hl=>hof.2 b (by omega)
 exact⟨S.rd.off hof (by omega),S.bel.trans hbl,lo,lc,fo,fc,go,gc,co,cc,⟨hx,(hof.2 _ (by omega)).trans he⟩,s1.onKeep hof.1 hk (fun b h _=>h),s2.kept hof.1 hk (fun b h _=>h) (fun _ _ h=>h),s3.kept hof.1 hk (fun b h _=>h) (fun _ _ h=>h),s4.onKeep hof.1 hk (fun b h _=>h)⟩
theorem zrh (X:Nat) (w:World) (v0 v1 v2 v3 v4 v5 e:Value):(∀b,X+3<=b->(((((((w.setCell ⟨X,0,none⟩ v0).setCell ⟨X,1,none⟩ v1).setCell ⟨X,2,none⟩ v2).setCell ⟨X,3,none⟩ v3).setCell ⟨X,4,none⟩ v4).setCell ⟨X,5,none⟩ v5).setCell ⟨X+1,0,none⟩ e).heap[b]?=w.heap[b]?)/\w.heap.size<=(((((((w.setCell ⟨X,0,none⟩ v0).setCell ⟨X,1,none⟩ v1).setCell ⟨X,2,none⟩ v2).setCell ⟨X,3,none⟩ v3).setCell ⟨X,4,none⟩ v4).setCell ⟨X,5,none⟩ v5).setCell ⟨X+1,0,none⟩ e).heap.size:=
 ⟨fun b hb=>((OffB.set (X+1) _ 0 e).2 b (by omega)).trans ((OffB.six X w v0 v1 v2 v3 v4 v5).2 b (by omega)),zzY (OffB.six X w v0 v1 v2 v3 v4 v5).1 (OffB.set (X+1) _ 0 e).1⟩
theorem zjh (f:Nat) (u:RUnit):zbt f u=0∨zbt f u=6:=by
 unfold zbt;split
 ·split
  ·exact .inr rfl
  ·exact .inl rfl
 ·exact .inr rfl
theorem zjz {w:World} {P:Nat->Prop} {u:RUnit} {lo fo go co:Option Addr} (ho:UnitOk u) (s1:SlIn w P 9 (Way.tm.on w P) lo u.lits) (s2:SlIn w P 4 zc7 fo u.funcs) (s3:SlIn w P 3 zbB go u.funs) (s4:SlIn w P 10 (Way.ins.on w P) co u.code):
  UP w u lo fo go co/\SlAt w 9 (TmAt w 2000) lo u.lits:=by
 have h1:SlAt w 9 (TmAt w 2000) lo u.lits:=s1.at fun j hj cs hx=>TmIn.ok hx (ho.lits _ (List.getElem_mem hj)).2
 have l1:=ho.litsL;have l2:=ho.funcsL;have l3:=ho.funsL;have l4:=ho.codeL;have l5:=ho.mdl;exact⟨⟨h1.imp fun _ _ h=>⟨2000,h⟩,s2.at fun _ _ _ h=>h,s3.at fun _ _ _ h=>h,s4.at fun j hj cs hx=>InsIn.ok hx (ho.code _ (List.getElem_mem hj)),by omega,ho.vsn,by omega,by omega,by omega,by omega⟩,h1⟩
theorem zo3 (s:ByteArray) (w:World) (hs:s.size<=68719476736) (hrows:RowsAt w) (hsp:SpaceAt w):Calls Tryz.prog 5 #[.string s] w (zhU s w):=by
 have hmf: ∀(fn:Fn) (first cap:Array Value) (w:World),(Instr.makeFunc fn first cap).run Tryz.prog w= .ok (.func fn first cap) w:=fun _ _ _ _=>rfl
 generalize hQ:zhU s w=Q at *;have HQ:=zzH hQ;clear hQ;have HU:Hid (zcX s.data.toList=(zfg s.data.toList).bind fun x=>if x.2= []/\zbt 2000 x.1=0 then some x.1 else none):=zzH rfl;have HD:Hid (zfg s.data.toList=(zcP s.data.toList).bind fun m=>(zbx m.2).bind fun v=>(zbh zdz v.2).bind fun a=>(zbh zcU a.2).bind fun b=>(zbh fnD b.2).bind fun c=>(zbh zcJ c.2).bind fun d=>some (⟨m.1,v.1,a.1,b.1,c.1,d.1⟩,d.2)):=zzH rfl;have HRW:=zzH hrows;have HSP:=zzH hsp;clear hrows hsp;go_enter_defers Tryz.func5,Tryz.ntmps5;go_upto_region 3 with fail;simp only [Nat.add_assoc,Nat.reduceAdd]
 have hO:Out2 w.heap.size (((w.alloc (.cells zf9 28)).alloc (.cells #[.int .i64 0] 29)).alloc (.cells #[.string s] 42)) zf9 (.int .i64 0):=by
  obtain⟨h0,h1,-⟩:=zgU w (.cells zf9 28) (.cells #[.int .i64 0] 29) (.cells #[.string s] 42);exact⟨h0,h1⟩
 have hR:RdC (w.heap.size+2) s.data.toList (((w.alloc (.cells zf9 28)).alloc (.cells #[.int .i64 0] 29)).alloc (.cells #[.string s] 42)):=⟨s,(zgU w _ _ _).2.2,rfl,hs⟩;have hB:Below w.heap.size w (((w.alloc (.cells zf9 28)).alloc (.cells #[.int .i64 0] 29)).alloc (.cells #[.string s] 42)):=(((zzR _ _).alloc (zzL _) _).alloc (by simp) _).alloc (by simp;omega) _;unfold zf9 at hO hR hB;generalize World.alloc _ _=w3 at *;have HRW3:Hid (w.heap.size<=w3.heap.size):=zzH hB.size;generalize hXX:w.heap.size=X at *;have HX:=zzH hXX;clear hXX;have hX:=hR.lt;have H1:=zf3 (X+2) s.data.toList w3 hR;rcases h1:zcP s.data.toList with _|⟨m,l1⟩
 ·rw [h1]at H1 HD
  have HN:Hid (zcX s.data.toList=none):=zzH (by rw [HU.out,HD.out];rfl);go_wp2_with (go_at_call 11;refine H1.mono ?_;rintro e v1 ⟨rfl,hg1⟩);refine leaves_cons (f:=10) (args:=#[.pointer (some ⟨X,0,none⟩),.pointer (some ⟨X+1,0,none⟩)]) (by simp) (by simp [go_sem]) ?_;refine(zgS X _ _ _ _ _ _ _ [] _ (hO.grown hg1)).mono ?_;rintro e u' w'' ⟨rfl,rfl,hO9,hB9⟩;simp only [settle,List.dropWhile_nil];refine⟨_,zea rfl _ _ _ X _ _ _ rfl rfl hO9 Tryz.underlying28 (by kernel_rfl) (zds hO9.e),?_⟩;rw [<-HQ.out];refine⟨by rw [HN.out],?_⟩;rw [HX.out];exact Below.trans (zct hB hg1 (by omega) (by omega)) hB9
 rw [h1]at H1 HD;rw [zzq0]at HD;go_wp2_with (go_at_call 11;refine H1.mono ?_;rintro e v1 ⟨rfl,hr1,hg1⟩;have hO1:=hO.grown hg1;have hB1:=zct hB hg1 (by omega) (by omega);clear hO hB hR H1 hX);have hX:=hr1.lt;have H2:=zbL (X+2) l1 v1 hr1;rcases h2:vD l1 with _|⟨n,l2⟩
 ·rw [h2]at H2
  rw [show zbx l1=(vD l1).bind fun x=>some ((x.1:Int),x.2)from rfl,h2]at HD;have HN:Hid (zcX s.data.toList=none):=zzH (by rw [HU.out,HD.out];rfl);go_wp2_with (go_at_call 12;refine H2.mono ?_;rintro e v2 ⟨rfl,hg2⟩);refine leaves_cons (f:=10) (args:=#[.pointer (some ⟨X,0,none⟩),.pointer (some ⟨X+1,0,none⟩)]) (by simp) (by simp [go_sem]) ?_;refine(zgS X _ _ _ _ _ _ _ [] _ (hO1.grown hg2)).mono ?_;rintro e u' w'' ⟨rfl,rfl,hO9,hB9⟩;simp only [settle,List.dropWhile_nil];refine⟨_,zea rfl _ _ _ X _ _ _ rfl rfl hO9 Tryz.underlying28 (by kernel_rfl) (zds hO9.e),?_⟩;rw [<-HQ.out];refine⟨by rw [HN.out],?_⟩;rw [HX.out];exact Below.trans (zct hB1 hg2 (by omega) (by omega)) hB9
 rw [h2]at H2;rw [show zbx l1=(vD l1).bind fun x=>some ((x.1:Int),x.2)from rfl,h2]at HD;rw [zzq0,zzq0]at HD;have hn:=(zcE h2).1;have hw64:IntKind.i64.wrap (n:Int)=(n:Int):=by rw [zzq3];omega
 go_upto_region 4 with(go_at_call 12;refine H2.mono ?_;rintro e v2 ⟨rfl,hr2,hg2⟩;have hO2:=hO1.grown hg2;have hB2:=zct hB1 hg2 (by omega) (by omega);clear hO1 hB1 hr1 H2 hg1 hX;obtain⟨c0,c1,c2,c3,c4,c5,d0,d1,d2,d3,d4,d5⟩:=zbq hO2.x);clear c0 c1 c2 c3 c4 c5 d0 d1 d2 d3 d4 d5;have S0:GSt w X l2 ⟨#[]⟩ 0 [] [] [] [] v2:=⟨hr2,hB2,none,0,none,0,none,0,none,0,hO2,.inl rfl,.inl rfl,.inl rfl,.inl rfl⟩;have S:=S0.put (m':=m) (v':=(n:Int)) (a':=[]) (b':=[]) (c':=[]) (d':=[]) (lo:=none) (lc:=0) (fo:=none) (fc:=0) (go:=none) (gc:=0) (co:=none) (cc:=0) (OffB.six X v2 (.string m) (.int .i64 (n:Int)) (.slice none 0 0) (.slice none 0 0) (.slice none 0 0) (.slice none 0 0)) (zgP (zzR _ _) (.string m) (.int .i64 (n:Int)) (.slice none 0 0) (.slice none 0 0) (.slice none 0 0) (.slice none 0 0)) (zo1 (.string m) (.int .i64 (n:Int)) (.slice none 0 0) (.slice none 0 0) (.slice none 0 0) (.slice none 0 0) hO2.x) hO2.e (.inl rfl) (.inl rfl) (.inl rfl) (.inl rfl);clear S0 hr2 hB2 hO2 hg2 hw64;generalize World.setCell _ _ _=w4 at *;generalize hv:(n:Int)=v at *;have HL:=zzH S;clear S;have S:=HL.out;clear HL;have hX:=S.lt;have H:=zjW (X+2) l2 _ (fun l wx h=>zpF (X+2) l wx h) zlH S.rd;rcases h3:zbh zdz l2 with _|⟨a,l3⟩
 ·rw [h3]at H HD
  have HN:Hid (zcX s.data.toList=none):=zzH (by rw [HU.out,HD.out];rfl);obtain⟨lo,lc,fo,fc,go,gc,co,cc,hO,-⟩:=S.y;go_wp2_with (go_at_call 13;refine H.mono ?_;rintro e v5 ⟨rfl,hg5⟩);exact zz141
 rw [h3]at H HD;rw [zzq0]at HD;have hX3:X+3<=w4.heap.size:=hX;go_upto_region 5 with(go_at_call 13;refine H.mono ?_;rintro e v5 ⟨⟨so2,c2,rfl,hsl⟩,hr5,hg5⟩;have S2:=S.call hr5 hg5;clear S;obtain⟨lo,lc,fo,fc,go,gc,co,cc,hO,s1,s2,s3,s4⟩:=S2.y;obtain⟨q0,q1,q2,q3,q4,q5,z0,z1,z2,z3,z4,z5⟩:=zbq hO.x);clear q0 q1 q2 q3 q4 q5 z0 z1 z2 z3 z4 z5;have S3:=S2.put (OffB.set X _ 2 _) ((zzR _ _).setCell (p:=⟨X,2,none⟩) (zzL _) _) (zzS _ _ 2 _ _ (.slice so2 a.length c2) hO.x) hO.e (hsl.onKeep (zzL _) (fun _ _ _=>rfl) (fun b hb _=>zzY hX3 hb)) s2 s3 s4;have HL:Hid (GSt w X l3 m v a [] [] [] _):=zzH S3;clear S2 S3 hO s1 s2 s3 s4 hr5 hg5 hsl H hX hX3 h3;generalize World.setCell _ _ _=w5 at *;have S:=HL.out;clear HL;have hX:=S.lt;have H:=zjv (X+2) l3 _ (fun l wx h=>znf (X+2) l wx h) zkf S.rd;rcases h3:zbh zcU l3 with _|⟨b,l4⟩
 ·rw [h3]at H HD
  have HN:Hid (zcX s.data.toList=none):=zzH (by rw [HU.out,HD.out];rfl);obtain⟨lo,lc,fo,fc,go,gc,co,cc,hO,-⟩:=S.y;go_wp2_with (go_at_call 15;refine H.mono ?_;rintro e v5 ⟨rfl,hg5⟩);exact zz141
 rw [h3]at H HD;rw [zzq0]at HD;have hX3:X+3<=w5.heap.size:=hX;go_upto_region 6 with(go_at_call 15;refine H.mono ?_;rintro e v5 ⟨⟨so2,c2,rfl,hsl⟩,hr5,hg5⟩;have S2:=S.call hr5 hg5;clear S;obtain⟨lo,lc,fo,fc,go,gc,co,cc,hO,s1,s2,s3,s4⟩:=S2.y;obtain⟨q0,q1,q2,q3,q4,q5,z0,z1,z2,z3,z4,z5⟩:=zbq hO.x);clear q0 q1 q2 q3 q4 q5 z0 z1 z2 z3 z4 z5;have S3:=S2.put (OffB.set X _ 3 _) ((zzR _ _).setCell (p:=⟨X,3,none⟩) (zzL _) _) (zzS _ _ 3 _ _ (.slice so2 b.length c2) hO.x) hO.e s1 (hsl.kept (zzL _) (fun _ _ _=>rfl) (fun b hb _=>zzY hX3 hb) (fun _ _ h=>h)) s3 s4;have HL:Hid (GSt w X l4 m v a b [] [] _):=zzH S3;clear S2 S3 hO s1 s2 s3 s4 hr5 hg5 hsl H hX hX3 h3;generalize World.setCell _ _ _=w6 at *;have S:=HL.out;clear HL;have hX:=S.lt;have H:=zjN (X+2) l4 _ (fun l wx h=>zo5 (X+2) l wx h) zor S.rd;rcases h3:zbh fnD l4 with _|⟨c,l5⟩
 ·rw [h3]at H HD
  have HN:Hid (zcX s.data.toList=none):=zzH (by rw [HU.out,HD.out];rfl);obtain⟨lo,lc,fo,fc,go,gc,co,cc,hO,-⟩:=S.y;go_wp2_with (go_at_call 17;refine H.mono ?_;rintro e v5 ⟨rfl,hg5⟩);exact zz141
 rw [h3]at H HD;rw [zzq0]at HD;have hX3:X+3<=w6.heap.size:=hX;go_upto_region 7 with(go_at_call 17;refine H.mono ?_;rintro e v5 ⟨⟨so2,c2,rfl,hsl⟩,hr5,hg5⟩;have S2:=S.call hr5 hg5;clear S;obtain⟨lo,lc,fo,fc,go,gc,co,cc,hO,s1,s2,s3,s4⟩:=S2.y;obtain⟨q0,q1,q2,q3,q4,q5,z0,z1,z2,z3,z4,z5⟩:=zbq hO.x);clear q0 q1 q2 q3 q4 q5 z0 z1 z2 z3 z4 z5;have S3:=S2.put (OffB.set X _ 4 _) ((zzR _ _).setCell (p:=⟨X,4,none⟩) (zzL _) _) (zzS _ _ 4 _ _ (.slice so2 c.length c2) hO.x) hO.e s1 s2 (hsl.kept (zzL _) (fun _ _ _=>rfl) (fun b hb _=>zzY hX3 hb) (fun _ _ h=>h)) s4;have HL:Hid (GSt w X l5 m v a b c [] _):=zzH S3;clear S2 S3 hO s1 s2 s3 s4 hr5 hg5 hsl H hX hX3 h3;generalize World.setCell _ _ _=w7 at *;have S:=HL.out;clear HL;have hX:=S.lt;have H:=zkt (X+2) l5 _ (HRW.out.below (by rw [HX.out];exact S.bel)) (fun l wx hw h=>zpB (X+2) l wx hw h) zlk S.rd;rcases h3:zbh zcJ l5 with _|⟨d,l6⟩
 ·rw [h3]at H HD
  have HN:Hid (zcX s.data.toList=none):=zzH (by rw [HU.out,HD.out];rfl);obtain⟨lo,lc,fo,fc,go,gc,co,cc,hO,-⟩:=S.y;go_wp2_with (go_at_call 19;refine H.mono ?_;rintro e v5 ⟨rfl,hg5⟩);exact zz141
 rw [h3]at H HD;rw [zzq0]at HD;have hX3:X+3<=w7.heap.size:=hX;go_upto_region 8 with(go_at_call 19;refine H.mono ?_;rintro e v5 ⟨⟨so2,c2,rfl,hsl⟩,hr5,hg5⟩;have S2:=S.call hr5 hg5;clear S;obtain⟨lo,lc,fo,fc,go,gc,co,cc,hO,s1,s2,s3,s4⟩:=S2.y;obtain⟨q0,q1,q2,q3,q4,q5,z0,z1,z2,z3,z4,z5⟩:=zbq hO.x);clear q0 q1 q2 q3 q4 q5 z0 z1 z2 z3 z4 z5;have S3:=S2.put (OffB.set X _ 5 _) ((zzR _ _).setCell (p:=⟨X,5,none⟩) (zzL _) _) (zzS _ _ 5 _ _ (.slice so2 d.length c2) hO.x) hO.e s1 s2 s3 (hsl.onKeep (zzL _) (fun _ _ _=>rfl) (fun b hb _=>zzY hX3 hb));have HL:Hid (GSt w X l6 m v a b c d _):=zzH S3;clear S2 S3 hO s1 s2 s3 s4 hr5 hg5 hsl H hX hX3 h3;generalize World.setCell _ _ _=w8 at *;have S:=HL.out;clear HL;obtain⟨lo,lc,fo,fc,go,gc,co,cc,hO,s1,s2,s3,s4⟩:=S.y;have hok:=(zjb HD.out).2;have hup:=zjz hok s1 s2 s3 s4
 have hcap: ∀t∈a,(zR 2000 t:Int)<=1152921504606846976:=fun t ht=>by
  have h1:=hok.lits t ht;exact zz142
 have hck:=ziS 1999 ⟨m,v,a,b,c,d⟩ lo fo go co lc fc gc cc w8 (HRW.out.below (by rw [HX.out];exact S.bel)) (HSP.out.below (by rw [HX.out];exact S.bel)) hup.1 hup.2 hcap (fun x hx=>by have:=(hok.code x hx).name;omega);have HSS:=zzH (And.intro s1 (And.intro s2 (And.intro s3 (And.intro s4 hok))));have hee:=zjh 2000 ⟨m,v,a,b,c,d⟩;have HEE:Hid (zcX s.data.toList=if l6= []/\zbt 2000 ⟨m,v,a,b,c,d⟩=0 then some ⟨m,v,a,b,c,d⟩else none):=zzH (by rw [HU.out,HD.out];rfl);clear hok hup hcap s1 s2 s3 s4;generalize zco (1999+1) ⟨m,v,a,b,c,d⟩=ci at *;rw [show zbt (1999+1) ⟨m,v,a,b,c,d⟩=zbt 2000 ⟨m,v,a,b,c,d⟩from rfl]at hck;generalize zbt 2000 ⟨m,v,a,b,c,d⟩=ce at *;obtain⟨q0,q1,q2,q3,q4,q5,z0,z1,z2,z3,z4,z5⟩:=zbq hO.x;go_upto_region 9 with(go_at_call 21;refine hck.mono ?_;rintro e w9 ⟨rfl,hb9⟩);obtain⟨s6,hr6,hl6,hs6⟩:=S.rd.below hb9;have hO9:=hO.below hb9;have hB9:Below X w w9:=S.bel.trans (hb9.mono (by have:=S.lt;omega));have hle9:=hb9.size;have HBL:=zzH hb9;have hX8:=S.lt;clear q0 q1 q2 q3 q4 q5 z0 z1 z2 z3 z4 z5 hO S hb9 hck;obtain⟨r0,g0⟩:=RdC.cells hr6;obtain⟨q0,q1,q2,q3,q4,q5,z0,z1,z2,z3,z4,z5⟩:=zbq hO9.x;have k1:w9.cell? ⟨X+1,0,none⟩=some (.int .i64 0):=zzq2 w9 _ 0 _ _ _ hO9.e;have f1:w9.frozen? ⟨X+1,0,none⟩=false:=zzq9 w9 _ 0 _ _ hO9.e;clear hr6;by_cases c6:l6= []
 case neg=>
  have HN:Hid (zcX s.data.toList=none):=zzH (by rw [HEE.out];exact if_neg fun h=>c6 h.1);have hne: ¬s6.toList= []:=by rw [zzq10,hl6];exact c6
  have hne3:s6.toList.isEmpty=false:=by cases h:s6.toList with|nil=>exact absurd h hne|cons=>rfl
  clear HEE c6 hl6 hee;exact zz140
 subst c6;have h0:s6=⟨#[]⟩:=ByteArray.ext (Array.ext' hl6);subst h0;by_cases ce0:ce=0
 case neg=>
  have HN:Hid (zcX s.data.toList=none):=zzH (by rw [HEE.out];exact if_neg fun h=>ce0 h.2);have ce6:=hee.resolve_left ce0;subst ce6;clear HEE hl6 hee ce0;exact zz140
 subst ce0;have HY:Hid (zcX s.data.toList=some ⟨m,v,a,b,c,d⟩):=zzH (by rw [HEE.out];exact if_pos ⟨rfl,rfl⟩);clear HEE hl6 hee;have hO10:=hO9.six (.string m) (.int .i64 v) (.slice lo a.length lc) (.slice fo b.length fc) (.slice go c.length gc) (.slice co d.length cc) (.int .i64 0);have hB10:Below X w _:=(zgP hB9 (.string m) (.int .i64 v) (.slice lo a.length lc) (.slice fo b.length fc) (.slice go c.length gc) (.slice co d.length cc)).setCell (p:=⟨X+1,0,none⟩) (show X<=X+1 by omega) (.int .i64 0);have HF:=zzH (zrh X w9 (.string m) (.int .i64 v) (.slice lo a.length lc) (.slice fo b.length fc) (.slice go c.length gc) (.slice co d.length cc) (.int .i64 0));go_wp2_with fail;clear q0 q1 q2 q3 q4 q5 z0 z1 z2 z3 z4 z5 k1 f1 hO9 hB9;generalize World.setCell _ ⟨X+1,0,none⟩ _=w10 at *;obtain⟨s1,s2,s3,s4,hok⟩:=HSS.out;have hk: ∀b,X+3<=b->b<w8.heap.size->w10.heap[b]?=w8.heap[b]?:=fun b hb hl=>(HF.out.1 b hb).trans (HBL.out.block b hl)
 have hz:w8.heap.size<=w10.heap.size:=zzY hle9 HF.out.2;have hup:=zjz (u:=⟨m,v,a,b,c,d⟩) hok (s1.onKeep hz hk (fun b h _=>h)) (s2.kept hz hk (fun b h _=>h) (fun _ _ h=>h)) (s3.kept hz hk (fun b h _=>h) (fun _ _ h=>h)) (s4.onKeep hz hk (fun b h _=>h));refine leaves_cons (f:=10) (args:=#[.pointer (some ⟨X,0,none⟩),.pointer (some ⟨X+1,0,none⟩)]) (by simp) (by simp [go_sem]) ?_;refine(zjV _ _ _).mono ?_;rintro e u' w'' ⟨rfl,rfl,rfl⟩;simp only [settle];refine⟨_,zea rfl _ _ _ X _ _ _ rfl rfl hO10 Tryz.underlying28 (by kernel_rfl) (zds hO10.e),?_⟩;rw [<-HQ.out];refine⟨?_,by rw [HX.out];exact hB10⟩;rw [HY.out];exact⟨lo,lc,fo,fc,go,gc,co,cc,rfl,hup.1,hup.2⟩
def zhG:RUnit:=⟨⟨#[]⟩,0,[],[],[],[]⟩
theorem zr4 (w:World):UP w zhG none none none none:=⟨.inl rfl,.inl rfl,.inl rfl,.inl rfl,by decide,by unfold I64 zhG;simp,by decide,by decide,by decide,by decide⟩
def zgd (l:List UInt8):RUnit:=(zcX l).getD zhG
def zpT (l:List UInt8):Int:=if(zcX l).isSome=true then 0 else 6
theorem zjd {s:ByteArray} {w w':World} {e:Ending} (h:zhU s w e w'): ∃lo lc fo fc go gc co cc,e= .returned (.tuple #[.agg #[.string (zgd s.data.toList).mdl,.int .i64 (zgd s.data.toList).vsn,.slice lo (zgd s.data.toList).lits.length lc,.slice fo (zgd s.data.toList).funcs.length fc,.slice go (zgd s.data.toList).funs.length gc,.slice co (zgd s.data.toList).code.length cc],.int .i64 (zpT s.data.toList)]) /\
  UP w' (zgd s.data.toList) lo fo go co/\SlAt w' 9 (TmAt w' 2000) lo (zgd s.data.toList).lits/\Below w.heap.size w w':=by
 obtain⟨h,hb⟩:=h;unfold zgd zpT
 cases hu:zcX s.data.toList with
 |none=>
  rw [hu]at h;exact⟨none,0,none,0,none,0,none,0,h,zr4 _,.inl rfl,hb⟩
 |some u=>
  rw [hu]at h;obtain⟨lo,lc,fo,fc,go,gc,co,cc,he,hup,hsl⟩:=h;exact⟨lo,lc,fo,fc,go,gc,co,cc,he,hup,hsl,hb⟩
end Go.Proofs.YtlaabicdhkebbaaGreatDoor
