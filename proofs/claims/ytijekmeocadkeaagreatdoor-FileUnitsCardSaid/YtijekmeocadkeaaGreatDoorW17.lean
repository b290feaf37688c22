import Derived.Test.YtijekmeocadkeaaGreatDoorW14
import Derived.Test.YtijekmeocadkeaaGreatDoorW15
import Derived.Test.YtijekmeocadkeaaGreatDoorW16
namespace Go.Proofs.YtijekmeocadkeaaGreatDoor
open Go.RowKit
set_option linter.unusedVariables false
set_option linter.unusedSimpArgs false
set_option maxRecDepth 100000
set_option maxHeartbeats 0
structure Out3 (X:Nat) (w:World) (row:Array Value) (n e:Value):Prop where
 x:w.heap[X]?=some (.cells row 55 (0,0))
 n:w.heap[X+1]?=some (.cells #[n] 3 (0,0))
 e:w.heap[X+2]?=some (.cells #[e] 37 (0,0))
theorem zun {w:World} {B:Nat} {a0 a1 a2 a3 a4 a5 a6 a7 a8:Value} (v0 v1 v2 v3 v4 v5 v6 v7 v8:Value) (h:w.heap[B]?=some (.cells #[a0,a1,a2,a3,a4,a5,a6,a7,a8] 55 (0,0))):
  (((((((((w.setCell ⟨B,0,none⟩ v0).setCell ⟨B,1,none⟩ v1).setCell ⟨B,2,none⟩ v2).setCell ⟨B,3,none⟩ v3).setCell ⟨B,4,none⟩ v4).setCell ⟨B,5,none⟩ v5).setCell ⟨B,6,none⟩ v6).setCell ⟨B,7,none⟩ v7).setCell ⟨B,8,none⟩ v8).heap[B]?=some (.cells #[v0,v1,v2,v3,v4,v5,v6,v7,v8] 55 (0,0)):=by
 have h0:(w.setCell ⟨B,0,none⟩ v0).heap[B]?=some (.cells #[v0,a1,a2,a3,a4,a5,a6,a7,a8] 55 (0,0)):=zzS _ _ 0 _ _ v0 h
 have h1:((w.setCell ⟨B,0,none⟩ v0).setCell ⟨B,1,none⟩ v1).heap[B]?=some (.cells #[v0,v1,a2,a3,a4,a5,a6,a7,a8] 55 (0,0)):=zzS _ _ 1 _ _ v1 h0
 have h2:(((w.setCell ⟨B,0,none⟩ v0).setCell ⟨B,1,none⟩ v1).setCell ⟨B,2,none⟩ v2).heap[B]?=some (.cells #[v0,v1,v2,a3,a4,a5,a6,a7,a8] 55 (0,0)):=zzS _ _ 2 _ _ v2 h1
 have h3:((((w.setCell ⟨B,0,none⟩ v0).setCell ⟨B,1,none⟩ v1).setCell ⟨B,2,none⟩ v2).setCell ⟨B,3,none⟩ v3).heap[B]?=some (.cells #[v0,v1,v2,v3,a4,a5,a6,a7,a8] 55 (0,0)):=zzS _ _ 3 _ _ v3 h2
 have h4:(((((w.setCell ⟨B,0,none⟩ v0).setCell ⟨B,1,none⟩ v1).setCell ⟨B,2,none⟩ v2).setCell ⟨B,3,none⟩ v3).setCell ⟨B,4,none⟩ v4).heap[B]?=some (.cells #[v0,v1,v2,v3,v4,a5,a6,a7,a8] 55 (0,0)):=zzS _ _ 4 _ _ v4 h3
 have h5:((((((w.setCell ⟨B,0,none⟩ v0).setCell ⟨B,1,none⟩ v1).setCell ⟨B,2,none⟩ v2).setCell ⟨B,3,none⟩ v3).setCell ⟨B,4,none⟩ v4).setCell ⟨B,5,none⟩ v5).heap[B]?=some (.cells #[v0,v1,v2,v3,v4,v5,a6,a7,a8] 55 (0,0)):=zzS _ _ 5 _ _ v5 h4
 have h6:(((((((w.setCell ⟨B,0,none⟩ v0).setCell ⟨B,1,none⟩ v1).setCell ⟨B,2,none⟩ v2).setCell ⟨B,3,none⟩ v3).setCell ⟨B,4,none⟩ v4).setCell ⟨B,5,none⟩ v5).setCell ⟨B,6,none⟩ v6).heap[B]?=some (.cells #[v0,v1,v2,v3,v4,v5,v6,a7,a8] 55 (0,0)):=zzS _ _ 6 _ _ v6 h5
 have h7:((((((((w.setCell ⟨B,0,none⟩ v0).setCell ⟨B,1,none⟩ v1).setCell ⟨B,2,none⟩ v2).setCell ⟨B,3,none⟩ v3).setCell ⟨B,4,none⟩ v4).setCell ⟨B,5,none⟩ v5).setCell ⟨B,6,none⟩ v6).setCell ⟨B,7,none⟩ v7).heap[B]?=some (.cells #[v0,v1,v2,v3,v4,v5,v6,v7,a8] 55 (0,0)):=zzS _ _ 7 _ _ v7 h6
 have h8:(((((((((w.setCell ⟨B,0,none⟩ v0).setCell ⟨B,1,none⟩ v1).setCell ⟨B,2,none⟩ v2).setCell ⟨B,3,none⟩ v3).setCell ⟨B,4,none⟩ v4).setCell ⟨B,5,none⟩ v5).setCell ⟨B,6,none⟩ v6).setCell ⟨B,7,none⟩ v7).setCell ⟨B,8,none⟩ v8).heap[B]?=some (.cells #[v0,v1,v2,v3,v4,v5,v6,v7,v8] 55 (0,0)):=zzS _ _ 8 _ _ v8 h7
 exact h8
theorem Out3.nine {X:Nat} {w:World} {a0 a1 a2 a3 a4 a5 a6 a7 a8 n e:Value} (h:Out3 X w #[a0,a1,a2,a3,a4,a5,a6,a7,a8] n e) (v0 v1 v2 v3 v4 v5 v6 v7 v8:Value):
  Out3 X (((((((((w.setCell ⟨X,0,none⟩ v0).setCell ⟨X,1,none⟩ v1).setCell ⟨X,2,none⟩ v2).setCell ⟨X,3,none⟩ v3).setCell ⟨X,4,none⟩ v4).setCell ⟨X,5,none⟩ v5).setCell ⟨X,6,none⟩ v6).setCell ⟨X,7,none⟩ v7).setCell ⟨X,8,none⟩ v8) #[v0,v1,v2,v3,v4,v5,v6,v7,v8] n e:=
 ⟨zun _ _ _ _ _ _ _ _ _ h.x,((OffB.nine X w v0 v1 v2 v3 v4 v5 v6 v7 v8).2 _ (by omega)).trans h.n,((OffB.nine X w v0 v1 v2 v3 v4 v5 v6 v7 v8).2 _ (by omega)).trans h.e⟩
theorem Out3.two {X:Nat} {w:World} {row:Array Value} {n e:Value} (h:Out3 X w row n e) (n2 e2:Value):Out3 X ((w.setCell ⟨X+1,0,none⟩ n2).setCell ⟨X+2,0,none⟩ e2) row n2 e2:=
 ⟨((OffB.set (X+2) _ 0 e2).2 _ (by omega)).trans (((OffB.set (X+1) w 0 n2).2 _ (by omega)).trans h.x),((OffB.set (X+2) _ 0 e2).2 _ (by omega)).trans (zzS w _ 0 _ _ n2 h.n),zzS _ _ 0 _ _ e2 (((OffB.set (X+1) w 0 n2).2 _ (by omega)).trans h.e)⟩
theorem Out3.below {X:Nat} {w w':World} {row:Array Value} {n e:Value} (h:Out3 X w row n e) (hb:Below w.heap.size w w'):Out3 X w' row n e:=
 ⟨(hb.block _ (zc h.x)).trans h.x,(hb.block _ (zc h.n)).trans h.n,(hb.block _ (zc h.e)).trans h.e⟩
theorem zod (a b c:Value) (w:World):
  CallsD Tryz.prog 150 #[a,b,c] .returning w fun e u' w'=>e= .returned (.tuple #[])/\u'= .returning/\w'=w:=by
 refine callsD_of_wpS Tryz.func150 rfl fun c₀ cs hu=>?_
 apply wpS_seq;generalize hK:Exit.thenS _ _=K;apply wpS_region;simp [wpOpsS,go_sem,recoverD,hu,Tryz.ntmps150];subst hK;simp only [Exit.thenS];refine wpS_of_wp ?_;go_wp2_with fail
 cases c₀
 simp_all [bodyPostS,results,Tryz.results150]
theorem zh9 (X:Nat) (v0 v1 v2 v3 v4 v5 v6 v7 v8 n e:Value) (older:List PanicEntry) (w:World) (h:Out3 X w #[v0,v1,v2,v3,v4,v5,v6,v7,v8] n e):
  CallsD Tryz.prog 150 #[.pointer (some ⟨X,0,none⟩),.pointer (some ⟨X+1,0,none⟩),.pointer (some ⟨X+2,0,none⟩)] (.panicking ({v:=.iface 210 (.agg #[]),recovered:=false}::older)) w fun e u' w'=>
   e= .returned (.tuple #[])/\u'= .panicking ({v:=.iface 210 (.agg #[]),recovered:=true}::older)/\Out3 X w' zC (.int .i64 0) (.int .i64 6)/\Below X w w':=by
 have hta: ∀wx:World,(Instr.typeAssert (Value.iface 210 (.agg #[])) 20 210 true).run Tryz.prog wx= .ok (.tuple #[.agg #[],.bool true]) wx:=fun wx=>by kernel_rfl
 refine callsD_of_wpS Tryz.func150 rfl fun c₀ cs hu=>?_
 apply wpS_seq;generalize hK:Exit.thenS _ _=K;apply wpS_region;simp [wpOpsS,go_sem,recoverD,hu,Tryz.ntmps150];subst hK;simp only [Exit.thenS];refine wpS_of_wp ?_;have hx:=zc h.x;have hx1:=zc h.n;have hx2:=zc h.e;have hb:Below w.heap.size w (w.alloc (.cells #[] 210)):=zzE _ _;have hd:Below w.heap.size w (w.alloc (.cells #[] 210)).drew:=hb.drew;have h2:Out3 X (w.alloc (.cells #[] 210)) #[v0,v1,v2,v3,v4,v5,v6,v7,v8] n e:=⟨(hb.block _ hx).trans h.x,(hb.block _ hx1).trans h.n,(hb.block _ hx2).trans h.e⟩;go_upto_region 5 with fail;generalize w.alloc _=w1 at *;clear h;obtain⟨c0,c1,c2,c3,c4,c5,c6,c7,c8,d0,d1,d2,d3,d4,d5,d6,d7,d8⟩:=zg h2.x;have k1:w1.cell? ⟨X+1,0,none⟩=some n:=zzq2 w1 _ 0 _ _ _ h2.n;have k2:w1.cell? ⟨X+2,0,none⟩=some e:=zzq2 w1 _ 0 _ _ _ h2.e;have f1:w1.frozen? ⟨X+1,0,none⟩=false:=zzq17 w1 _ 0 _ _ h2.n;have f2:w1.frozen? ⟨X+2,0,none⟩=false:=zzq17 w1 _ 0 _ _ h2.e;have hN:=h2.nine (.int .i64 0) (.int .i64 0) (.int .i64 0) (.string ⟨#[]⟩) (.string ⟨#[]⟩) (.int .i64 0) (.slice none 0 0) (.string ⟨#[]⟩) (.int .i64 0);have hO:=hN.two (.int .i64 0) (.int .i64 6);have hB:Below X w _:=((zch (B:=X) (zzL _) (hb.mono (zzb hx)) (.int .i64 0) (.int .i64 0) (.int .i64 0) (.string ⟨#[]⟩) (.string ⟨#[]⟩) (.int .i64 0) (.slice none 0 0) (.string ⟨#[]⟩) (.int .i64 0)).setCell (p:=⟨X+1,0,none⟩) (show X<=X+1 by omega) (.int .i64 0)).setCell (p:=⟨X+2,0,none⟩) (show X<=X+2 by omega) (.int .i64 6);go_wp2_with fail;clear h2 hN c0 c1 c2 c3 c4 c5 c6 c7 c8 d0 d1 d2 d3 d4 d5 d6 d7 d8 k1 k2 f1 f2;generalize World.setCell _ ⟨X+2,0,none⟩ _=w9 at *;simp [bodyPostS,results,Tryz.results150];exact⟨hO,hB⟩
def zmE (s:ByteArray) (w:World) (e:Ending) (w':World):Prop:=
 (match zcG s.data.toList with
 |none=>e= .returned (.tuple #[.agg zC,.int .i64 0,.int .i64 6])
 |some (t,l)=> ∃so c,e= .returned (.tuple #[.agg #[.int .i64 t.kind,.int .i64 t.int,.int .i64 t.gen,.string t.name,.string t.func,.int .i64 t.arity,.slice so t.items.length c,.string t.bytes,.int .i64 t.bits],.int .i64 ((s.size:Int)-l.length),.int .i64 0])/\TmIn w' (w.heap.size<= ·) 2000 (tmL t so c) t)/\Below w.heap.size w w'
theorem zfQ {fn:Func} {p q u:Tmp} {ty t1 t2:TypeId} (h:fn.results=#[.cell p ty,.cell q t1,.cell u t2]) (tmps:Array Value) (P:Program) (w:World) (X:Nat) (cs:Array Value) (n e:Value) (fs:Array Field)
  (hp:tmps.getD p undef= .pointer (some ⟨X,0,none⟩)) (hq:tmps.getD q undef= .pointer (some ⟨X+1,0,none⟩)) (hu:tmps.getD u undef= .pointer (some ⟨X+2,0,none⟩)) (ho:Out3 X w cs n e)
  (hty:P.underlying ty=some (.struct fs)) (hi:(P.info? ty).map (·.size)=some cs.size) (h1:(loadVar t1 ⟨X+1,0,none⟩).run P w= .ok n w) (h2:(loadVar t2 ⟨X+2,0,none⟩).run P w= .ok e w):
  (results fn tmps).run P w= .ok (.tuple #[.agg cs,n,e]) w:=by
 have hl:=run_loadVar_row w X 55 ty cs (0,0) (.struct fs) ho.x hty rfl hi;have hp':tmps[p]?.getD undef= .pointer (some ⟨X,0,none⟩):=by simpa using hp
 have hq':tmps[q]?.getD undef= .pointer (some ⟨X+1,0,none⟩):=by simpa using hq
 have hu':tmps[u]?.getD undef= .pointer (some ⟨X+2,0,none⟩):=by simpa using hu
 simp [results,h,hp',hq',hu',asAddr,hl,h1,h2]
theorem zhN {X:Nat} {w:World} {v:Value} (h:w.heap[X]?=some (.cells #[v] 3 (0,0))):(loadVar 3 ⟨X,0,none⟩).run Tryz.prog w= .ok v w:=by
 have k:=zzq2 w X 0 _ _ _ h;simp [loadVar,isAgg,go_sem,Tryz.underlying3,k]
theorem zdp {X:Nat} {w:World} {v:Value} (h:w.heap[X]?=some (.cells #[v] 37 (0,0))):(loadVar 37 ⟨X,0,none⟩).run Tryz.prog w= .ok v w:=by
 have k:=zzq2 w X 0 _ _ _ h;simp [loadVar,isAgg,go_sem,Tryz.underlying37,k]
theorem Out3.grown {X:Nat} {w w':World} {row:Array Value} {n e:Value} (h:Out3 X w row n e) (hg:w.grownBy w' (some (X+3))):Out3 X w' row n e:=
 ⟨(hg.block _ (zc h.x) (by simp)).trans h.x,(hg.block _ (zc h.n) (by simp)).trans h.n,(hg.block _ (zc h.e) (by simp)).trans h.e⟩
theorem zcR {B r:Nat} {a b c:World} (h:Below B a b) (hg:b.grownBy c (some r)) (hr:B<=r) (hs:B<=b.heap.size):Below B a c:=
 h.grown hg hs fun k e=>by have:=zzf e;omega
theorem RdL.off {r:Nat} {s:ByteArray} {l:List UInt8} {p X:Nat} {w w':World} (h:RdL r s l p w) (ho:OffB X w w') (hr:r≠X):RdL r s l p w':=by
 obtain⟨a,h1,h2⟩:=h;exact⟨a,(ho.2 r hr).trans h1,h2⟩
theorem zhF (w:World) (o0 o1 o2 o3:Obj):((((w.alloc o0).alloc o1).alloc o2).alloc o3).heap[w.heap.size]?=some o0/\((((w.alloc o0).alloc o1).alloc o2).alloc o3).heap[w.heap.size+1]?=some o1 /\
  ((((w.alloc o0).alloc o1).alloc o2).alloc o3).heap[w.heap.size+2]?=some o2/\((((w.alloc o0).alloc o1).alloc o2).alloc o3).heap[w.heap.size+3]?=some o3:=by
 have n0:=zzF w o0;have n1:=zzF (w.alloc o0) o1;have n2:=zzF ((w.alloc o0).alloc o1) o2;have n3:=zzF (((w.alloc o0).alloc o1).alloc o2) o3;rw [show(w.alloc o0).heap.size=w.heap.size+1 by simp]at n1;rw [show((w.alloc o0).alloc o1).heap.size=w.heap.size+2 by simp]at n2;rw [show(((w.alloc o0).alloc o1).alloc o2).heap.size=w.heap.size+3 by simp]at n3;refine⟨?_,?_,?_,n3⟩
 ·rw [Below.heap_alloc _ _ _ (by simp;omega),Below.heap_alloc _ _ _ (by simp;omega),Below.heap_alloc _ _ _ (by simp)];exact n0
 ·rw [Below.heap_alloc _ _ _ (by simp),Below.heap_alloc _ _ _ (by simp)];exact n1
 ·rw [Below.heap_alloc _ _ _ (by simp)];exact n2
theorem zpS (s:ByteArray) (w:World) (hs:s.size<=9223372036854775807):Calls Tryz.prog 135 #[.string s] w (zmE s w):=by
 have hmf: ∀(fn:Fn) (first cap:Array Value) (w:World),(Instr.makeFunc fn first cap).run Tryz.prog w= .ok (.func fn first cap) w:=fun _ _ _ _=>rfl
 generalize hQ:zmE s w=Q at *;have HQ:=zzH hQ;clear hQ;go_enter_defers Tryz.func135,Tryz.ntmps135;go_upto_region 3 with fail;simp only [Nat.add_assoc,Nat.reduceAdd]
 have hO:Out3 w.heap.size ((((w.alloc (.cells zC 55)).alloc (.cells #[.int .i64 0] 3)).alloc (.cells #[.int .i64 0] 37)).alloc (.cells #[.string s,.int .i64 0,.int .i64 0] 214)) zC (.int .i64 0) (.int .i64 0):=by
  obtain⟨h0,h1,h2,-⟩:=zhF w (.cells zC 55) (.cells #[.int .i64 0] 3) (.cells #[.int .i64 0] 37) (.cells #[.string s,.int .i64 0,.int .i64 0] 214);exact⟨h0,h1,h2⟩
 have hR:RdL (w.heap.size+3) s s.data.toList 0 ((((w.alloc (.cells zC 55)).alloc (.cells #[.int .i64 0] 3)).alloc (.cells #[.int .i64 0] 37)).alloc (.cells #[.string s,.int .i64 0,.int .i64 0] 214)):=
  ⟨0,(zhF w _ _ _ _).2.2.2,zzZ _,rfl,hs⟩
 have hB:Below w.heap.size w ((((w.alloc (.cells zC 55)).alloc (.cells #[.int .i64 0] 3)).alloc (.cells #[.int .i64 0] 37)).alloc (.cells #[.string s,.int .i64 0,.int .i64 0] 214)):=
  (((zzE _ _).alloc (by simp) _).alloc (by simp;omega) _).alloc (by simp;omega) _
 unfold zC at hO hR hB;generalize World.alloc _ _=w4 at *;have hX:w.heap.size+3<w4.heap.size:=hR.lt;generalize hXX:w.heap.size=X at *;have HX:=zzH hXX;clear hXX;have HT:=zhU 2000 (X+3) s s.data.toList 0 w4 hR (by omega) (by omega);rcases h1:zy 2000 0 s.data.toList with _|⟨⟨t,p⟩,l⟩
 ·rw [h1]at HT
  have HD:Hid (zcG s.data.toList=none):=zzH (by unfold zcG;rw [h1];rfl);go_wp2_with (go_at_call 151;refine HT.mono ?_;rintro e w5 ⟨rfl,hg⟩);refine leaves_cons (f:=150) (args:=#[.pointer (some ⟨X,0,none⟩),.pointer (some ⟨X+1,0,none⟩),.pointer (some ⟨X+2,0,none⟩)]) (by simp) (by simp [go_sem]) ?_;refine(zh9 X _ _ _ _ _ _ _ _ _ _ _ [] _ (hO.grown hg)).mono ?_;rintro e u' w'' ⟨rfl,rfl,hO9,hB9⟩;simp only [settle,List.dropWhile_nil];refine⟨_,zfQ rfl _ _ _ X _ _ _ _ rfl rfl rfl hO9 Tryz.underlying55 (by kernel_rfl) (zhN hO9.n) (zdp hO9.e),?_⟩;rw [<-HQ.out];refine⟨by rw [HD.out],?_⟩;rw [HX.out];exact(zcR hB hg (by omega) (by omega)).trans hB9
 rw [h1]at HT;have hok:=zfS 2000 0 s.data.toList t p l h1 (by omega) hR.len;have hcap:=zhc 2000 t hok.1;have hn:=zl4 2000 0 s.data.toList t p l h1;go_upto_region 4 with(go_at_call 151;refine HT.mono ?_;rintro e w5 ⟨⟨so,c,rfl,htm⟩,hr,hg⟩;have hO5:=hO.grown hg;obtain⟨x0,x1,x2,x3,x4,x5,x6,x7,x8,y0,y1,y2,y3,y4,y5,y6,y7,y8⟩:=zg hO5.x);have hO6:=hO5.nine (.int .i64 t.kind) (.int .i64 t.int) (.int .i64 t.gen) (.string t.name) (.string t.func) (.int .i64 t.arity) (.slice so t.items.length c) (.string t.bytes) (.int .i64 t.bits);have hB6:=zch (B:=X) (zzL _) (zcR hB hg (by omega) (by omega)) (.int .i64 t.kind) (.int .i64 t.int) (.int .i64 t.gen) (.string t.name) (.string t.func) (.int .i64 t.arity) (.slice so t.items.length c) (.string t.bytes) (.int .i64 t.bits);have hsl:=htm.sl.off (OffB.nine X w5 (.int .i64 t.kind) (.int .i64 t.int) (.int .i64 t.gen) (.string t.name) (.string t.func) (.int .i64 t.arity) (.slice so t.items.length c) (.string t.bytes) (.int .i64 t.bits)) (show X<w4.heap.size by omega) (zzL _);have hX5:X<w5.heap.size:=zc hO5.x;have hr6:=hr.off (OffB.nine X w5 (.int .i64 t.kind) (.int .i64 t.int) (.int .i64 t.gen) (.string t.name) (.string t.func) (.int .i64 t.arity) (.slice so t.items.length c) (.string t.bytes) (.int .i64 t.bits)) (by omega);have hs6:w5.heap.size<=_:=(OffB.nine X w5 (.int .i64 t.kind) (.int .i64 t.int) (.int .i64 t.gen) (.string t.name) (.string t.func) (.int .i64 t.arity) (.slice so t.items.length c) (.string t.bytes) (.int .i64 t.bits)).1;clear hO5 x0 x1 x2 x3 x4 x5 x6 x7 x8 y0 y1 y2 y3 y4 y5 y6 y7 y8 hr htm HT hO hR hB;generalize World.setCell _ _ _=w6 at *;obtain⟨x0,x1,x2,x3,x4,x5,x6,x7,x8,y0,y1,y2,y3,y4,y5,y6,y7,y8⟩:=zg hO6.x;have hat:SlAt w6 9 (TmAt w6 1999) so t.items:=hsl.at fun j hj cs hx=>hx.ok (hok.1.2 _ (zzM hj))
 have HV:=zeZ 1999 t so c w6 hat hok.1.1 (by have h2:zG (1999+1) t+1<=301*zbg 2000 t:=hcap;omega);have HTT:=zzH hsl;have HLE:Hid (X+3<w4.heap.size):=zzH hX;clear hsl hat hok hcap hn hg hs6 hX hX5;by_cases cv:zA 2000 t=true
 case neg=>
  have HD:Hid (zcG s.data.toList=none):=zzH (by unfold zcG;rw [h1,zzq0];exact if_neg cv);rw [show zA (1999+1) t=false by simpa using cv]at HV;go_wp2_with (first|(go_at_call 75;refine HV.mono ?_;rintro e w7 ⟨rfl,hb7⟩)|(go_at_call 152;refine(zco _ _).mono ?_;rintro e w8 ⟨rfl,rfl⟩));refine leaves_cons (f:=150) (args:=#[.pointer (some ⟨X,0,none⟩),.pointer (some ⟨X+1,0,none⟩),.pointer (some ⟨X+2,0,none⟩)]) (by simp) (by simp [go_sem]) ?_;refine(zh9 X _ _ _ _ _ _ _ _ _ _ _ [] _ (hO6.below hb7)).mono ?_;rintro e u' w'' ⟨rfl,rfl,hO9,hB9⟩;simp only [settle,List.dropWhile_nil];refine⟨_,zfQ rfl _ _ _ X _ _ _ _ rfl rfl rfl hO9 Tryz.underlying55 (by kernel_rfl) (zhN hO9.n) (zdp hO9.e),?_⟩;rw [<-HQ.out];refine⟨by rw [HD.out],?_⟩;rw [HX.out];exact(hB6.trans (hb7.mono (zzb (zc hO6.x)))).trans hB9
 have HD:Hid (zcG s.data.toList=some (t,l)):=zzH (by unfold zcG;rw [h1,zzq0];exact if_pos cv);rw [show zA (1999+1) t=true from cv]at HV;go_upto_region 5 with(first|(go_at_call 75;refine HV.mono ?_;rintro e w7 ⟨rfl,hb7⟩)|(go_at_call 152;refine(zW _ _).mono ?_;rintro e w8 ⟨rfl,rfl⟩));have hO7:=hO6.below hb7;have hr7:=hr6.below hb7;have HT7:Hid (SlIn w7 (w4.heap.size<= ·) 9 (TmIn w7 (w4.heap.size<= ·) 1999) so t.items):=zzH (HTT.out.kept hb7.size (fun b _ hl=>hb7.block b hl) (fun b h _=>h) fun _ _ h=>h.below hb7);have HB7:Hid (Below X w w7):=zzH (hB6.trans (hb7.mono (zzb (zc hO6.x))));clear x0 x1 x2 x3 x4 x5 x6 x7 x8 y0 y1 y2 y3 y4 y5 y6 y7 y8 HV hO6 hr6 hb7 hB6 HTT;obtain⟨a,hA,ha,hal,hss⟩:=hr7;have hlen:=zfb ha hal;obtain⟨r0,r1,r2,g1,g2⟩:=hA.cells;obtain⟨x0,x1,x2,x3,x4,x5,x6,x7,x8,y0,y1,y2,y3,y4,y5,y6,y7,y8⟩:=zg hO7.x;have k1:w7.cell? ⟨X+1,0,none⟩=some (.int .i64 0):=zzq2 w7 _ 0 _ _ _ hO7.n;have k2:w7.cell? ⟨X+2,0,none⟩=some (.int .i64 0):=zzq2 w7 _ 0 _ _ _ hO7.e;have f1:w7.frozen? ⟨X+1,0,none⟩=false:=zzq17 w7 _ 0 _ _ hO7.n;have f2:w7.frozen? ⟨X+2,0,none⟩=false:=zzq17 w7 _ 0 _ _ hO7.e;go_region;have hLE:=HLE.out;have hO8:=(hO7.nine (.int .i64 t.kind) (.int .i64 t.int) (.int .i64 t.gen) (.string t.name) (.string t.func) (.int .i64 t.arity) (.slice so t.items.length c) (.string t.bytes) (.int .i64 t.bits)).two (.int .i64 a) (.int .i64 0);have hB8:Below X w _:=((zch (B:=X) (zzL _) HB7.out (.int .i64 t.kind) (.int .i64 t.int) (.int .i64 t.gen) (.string t.name) (.string t.func) (.int .i64 t.arity) (.slice so t.items.length c) (.string t.bytes) (.int .i64 t.bits)).setCell (p:=⟨X+1,0,none⟩) (show X<=X+1 by omega) (.int .i64 a)).setCell (p:=⟨X+2,0,none⟩) (show X<=X+2 by omega) (.int .i64 0);have hS8:=((HT7.out.off (OffB.nine X w7 (.int .i64 t.kind) (.int .i64 t.int) (.int .i64 t.gen) (.string t.name) (.string t.func) (.int .i64 t.arity) (.slice so t.items.length c) (.string t.bytes) (.int .i64 t.bits)) (show X<w4.heap.size by omega) (zzL _)).off (OffB.set (X+1) _ 0 (.int .i64 a)) (show X+1<w4.heap.size by omega) (zzL _)).off (OffB.set (X+2) _ 0 (.int .i64 0)) (show X+2<w4.heap.size by omega) (show X<=w4.heap.size by omega);clear x0 x1 x2 x3 x4 x5 x6 x7 x8 y0 y1 y2 y3 y4 y5 y6 y7 y8 k1 k2 f1 f2 r0 r1 r2 g1 g2 hA hO7 HB7 HT7;generalize World.setCell _ ⟨X+2,0,none⟩ _=w8 at *;go_wp2_with fail;refine leaves_cons (f:=150) (args:=#[.pointer (some ⟨X,0,none⟩),.pointer (some ⟨X+1,0,none⟩),.pointer (some ⟨X+2,0,none⟩)]) (by simp) (by simp [go_sem]) ?_;refine(zod _ _ _ _).mono ?_;rintro e u' w'' ⟨rfl,rfl,rfl⟩;simp only [settle];have hO9:Out3 X w8.drew _ _ _:=hO8.below (zzR _ _).drew;refine⟨_,zfQ rfl _ _ _ X _ _ _ _ rfl rfl rfl hO9 Tryz.underlying55 (by kernel_rfl) (zhN hO9.n) (zdp hO9.e),?_⟩;rw [<-HQ.out];refine⟨?_,by rw [HX.out];exact hB8.drew⟩;rw [HD.out];refine⟨so,c,congrArg (fun z:Int=>Ending.returned (.tuple #[_,.int .i64 z,_])) (by omega),so,c,rfl,?_⟩;rw [HX.out];exact hS8.kept (zzL _) (fun _ _ _=>rfl) (fun _ h _=>h) fun _ _ h=>h.below (zzR _ _).drew
def zmu (s:ByteArray) (w:World) (e:Ending) (w':World):Prop:=
 (match zew s.data.toList with
 |none=>e= .returned (.tuple #[.agg #[.int .i64 0,.int .i64 0,.int .i64 0,.string ⟨#[]⟩,.string ⟨#[]⟩,.int .i64 0,.slice none 0 0,.string ⟨#[]⟩,.int .i64 0],.int .i64 6])
 |some t=> ∃so c,e= .returned (.tuple #[.agg #[.int .i64 t.kind,.int .i64 t.int,.int .i64 t.gen,.string t.name,.string t.func,.int .i64 t.arity,.slice so t.items.length c,.string t.bytes,.int .i64 t.bits],.int .i64 0])/\TmIn w' (w.heap.size<= ·) 2000 (tmL t so c) t)/\Below w.heap.size w w'
theorem zps {s:ByteArray} {c:UInt8} {l:List UInt8} (h:s.data.toList=c::l):(s.extract 1 s.size).data.toList=l/\(s.extract 1 s.size).size+1=s.size:=by
 have hl:s.size=l.length+1:=by have:=congrArg List.length h;rw [Array.length_toList]at this;exact this
 refine⟨?_,by rw [ByteArray.size_extract];omega⟩;rw [ByteArray.data_extract,Array.toList_extract,List.extract_eq_take_drop,h,List.drop_one,List.tail_cons,List.take_of_length_le (by omega)]
theorem zmw {l l2:List UInt8} {t:Tm} (h:zcG l=some (t,l2)) (hl:l.length<=maxLen):l2.length<=l.length/\OkF 2000 t:=by
 unfold zcG at h;obtain⟨x,hx,h⟩:=zzO.1 h;split at h
 ·simp only [zzX0]at h
  obtain⟨rfl,rfl⟩:=h;have:=zfS 2000 0 l x.1.1 x.1.2 x.2 hx (by omega) hl;exact⟨this.2.2.2,this.1⟩
 ·exact zz83
theorem SlIn.new {w w':World} {B f:Nat} {ao:zzA} {ts:List Tm} (h:SlIn w (B<= ·) 9 (TmIn w (B<= ·) f) ao ts) (hb:Below w.heap.size w w'):SlIn w' (B<= ·) 9 (TmIn w' (B<= ·) f) ao ts:=
 h.kept hb.size (fun b _ hl=>hb.block b hl) (fun b h _=>h) fun _ _ h=>h.below hb
theorem zqi (s:ByteArray) (w:World) (hs:s.size<=9223372036854775807):Calls Tryz.prog 91 #[.string s] w (zmu s w):=by
 generalize hQ:zmu s w=Q at *;have HQ:=zzH hQ;clear hQ
 cases hl:s.data.toList with
 |nil=>
  have h0:s=⟨#[]⟩:=ByteArray.ext (Array.ext' hl);subst h0;have x:=zzF w (.cells zC 55);go_in;go_upto_region 1 with fail;have hb:Below w.heap.size w (w.alloc (.cells zC 55)):=zzE _ _;unfold zC at x hb;generalize w.alloc _=w1 at *;obtain⟨x0,x1,x2,x3,x4,x5,x6,x7,x8,y0,y1,y2,y3,y4,y5,y6,y7,y8⟩:=zg x;go_wp2_with fail;refine zzj (zT rfl _ _ _ w.heap.size _ _ _ _ rfl (zcq _ _ _ _ _ _ _ _ _ x) Tryz.underlying55 (by kernel_rfl)) rfl ?_;rw [<-HQ.out];exact⟨rfl,zch (zzL _) hb _ _ _ _ _ _ _ _ _⟩
 |cons c l=>
  obtain⟨ht,hz⟩:=zps hl;have hT:=zpS (s.extract 1 s.size);unfold zmE at hT;rw [ht]at hT;have x:=zzF w (.cells zC 55);go_in;go_upto_region 1 with fail;have hb:Below w.heap.size w (w.alloc (.cells zC 55)):=zzE _ _;unfold zC at x hb;generalize w.alloc _=w1 at *;have hne: ¬s.toList= []:=by rw [zzq14,hl];simp
  have hne3:s.toList.isEmpty=false:=by rw [zzq14,hl];rfl
  have hsz:0<s.size:=by omega
  have hc0:s[0]=c:=by
   have h1:s.data.toList[0]?=some c:=by rw [hl];rfl
   rw [Array.getElem?_toList,Array.getElem?_eq_getElem (show 0<s.data.size from hsz)]at h1;exact zzf h1
  have hcl:=c.toNat_lt;by_cases c1:c.toNat=131
  case neg=>
   have HD:Hid (zew s.data.toList=none):=zzH (by rw [hl];exact if_neg c1);have hnc:((s[0].toNat:Int)!=131)=true:=by rw [hc0,bne_iff_ne];omega
   have hnd: ¬(s[0].toNat:Int)=131:=by rw [hc0];omega
   clear hc0 hcl c1;obtain⟨x0,x1,x2,x3,x4,x5,x6,x7,x8,y0,y1,y2,y3,y4,y5,y6,y7,y8⟩:=zg x;go_wp2_with fail;go_wp2_with fail;refine zzj (zT rfl _ _ _ w.heap.size _ _ _ _ rfl (zcq _ _ _ _ _ _ _ _ _ x) Tryz.underlying55 (by kernel_rfl)) rfl ?_;rw [<-HQ.out];refine⟨by rw [HD.out];exact rfl,zch (zzL _) hb _ _ _ _ _ _ _ _ _⟩
  have hnc:((s[0].toNat:Int)!=131)=false:=by rw [hc0,c1];rfl
  have hnd:(s[0].toNat:Int)=131:=by rw [hc0,c1];rfl
  have hwg:zew s.data.toList=(zcG l).bind fun x=>if x.2= []then some x.1 else none:=by rw [hl];exact if_pos c1
  have HWG:=zzH hwg;clear hwg hc0 hcl c1;have hT:=hT w1 (by omega);rcases hw:zcG l with _|⟨t,l2⟩
  ·rw [hw]at hT HWG
   have HD:Hid (zew s.data.toList=none):=HWG;clear HWG;unfold zC at hT;go_upto_region 4 with(go_at_call 135;refine hT.mono ?_;rintro e w2 ⟨rfl,hb2⟩);have hB3:=(zzR w2.heap.size w2).alloc (zzL _) (.cells #[.int .i64 0,.int .i64 0,.int .i64 0,.string ⟨#[]⟩,.string ⟨#[]⟩,.int .i64 0,.slice none 0 0,.string ⟨#[]⟩,.int .i64 0] 55);have hY3:=zzF w2 (.cells #[.int .i64 0,.int .i64 0,.int .i64 0,.string ⟨#[]⟩,.string ⟨#[]⟩,.int .i64 0,.slice none 0 0,.string ⟨#[]⟩,.int .i64 0] 55);have hlw:=zc x;have hx3:=(hB3.block _ (zzW hlw hb2.size)).trans ((hb2.block _ hlw).trans x);have hbw:=(hb.trans (hb2.mono (zzb hlw))).trans (hB3.mono (zzY (zzb hlw) hb2.size));have hne2:w.heap.size<w2.heap.size:=zzW hlw hb2.size;clear hB3 x hb hb2 hT;generalize w2.alloc _=w3 at *;generalize w2.heap.size=Y at *;obtain⟨x0,x1,x2,x3,x4,x5,x6,x7,x8,y0,y1,y2,y3,y4,y5,y6,y7,y8⟩:=zg hx3;go_wp2_with fail;refine zzj (zT rfl _ _ _ w.heap.size _ _ _ _ rfl (zcq _ _ _ _ _ _ _ _ _ hx3) Tryz.underlying55 (by kernel_rfl)) rfl ?_;rw [<-HQ.out];refine⟨by rw [HD.out];exact rfl,zch (zzL _) hbw _ _ _ _ _ _ _ _ _⟩
  rw [hw]at hT HWG;rw [zzq0]at HWG
  have hll:l2.length<=l.length:=by
   have hle:l.length<=maxLen:=by have:=congrArg List.length hl;rw [Array.length_toList]at this;have h3:s.data.size=s.size:=rfl;rw [zzq18]at this;unfold maxLen;omega
   have:=(zmw hw hle);omega
  go_upto_region 4 with(go_at_call 135;refine hT.mono ?_;rintro e w2 ⟨⟨so,c2,rfl,htm⟩,hb2⟩);have hB3:=(zzR w2.heap.size w2).alloc (zzL _) (.cells #[.int .i64 t.kind,.int .i64 t.int,.int .i64 t.gen,.string t.name,.string t.func,.int .i64 t.arity,.slice so t.items.length c2,.string t.bytes,.int .i64 t.bits] 55);have hY3:=zzF w2 (.cells #[.int .i64 t.kind,.int .i64 t.int,.int .i64 t.gen,.string t.name,.string t.func,.int .i64 t.arity,.slice so t.items.length c2,.string t.bytes,.int .i64 t.bits] 55);have hlw:=zc x;have hx3:=(hB3.block _ (zzW hlw hb2.size)).trans ((hb2.block _ hlw).trans x);have hbw:=(hb.trans (hb2.mono (zzb hlw))).trans (hB3.mono (zzY (zzb hlw) hb2.size));have hsl:=htm.sl.new hB3;have hw1:w.heap.size<=w1.heap.size:=zzb hlw;clear htm;have hne2:w.heap.size<w2.heap.size:=zzW hlw hb2.size;clear hB3 x hb hb2 hT;generalize w2.alloc _=w3 at *;generalize w2.heap.size=Y at *;obtain⟨x0,x1,x2,x3,x4,x5,x6,x7,x8,y0,y1,y2,y3,y4,y5,y6,y7,y8⟩:=zg hx3;by_cases c3:l2= []
  case neg=>
   have HD:Hid (zew s.data.toList=none):=zzH (by rw [HWG.out];exact if_neg c3);have hlp:0<l2.length:=List.length_pos_iff.2 c3;have hq1: ¬((s.size-1:Nat):Int)-(l2.length:Int)=(s.size:Int)-1:=by omega
   have hq2:(((s.size-1:Nat):Int)-(l2.length:Int)!=(s.size:Int)-1)=true:=by rw [bne_iff_ne];exact hq1
   have hw3:IntKind.i64.wrap ((s.size:Int)-1)=(s.size:Int)-1:=by rw [zzq5];omega
   clear hlp c3 HWG hll;generalize((s.size-1:Nat):Int)-(l2.length:Int)=nv at *;go_wp2_with fail;refine zzj (zT rfl _ _ _ w.heap.size _ _ _ _ rfl (zcq _ _ _ _ _ _ _ _ _ hx3) Tryz.underlying55 (by kernel_rfl)) rfl ?_;rw [<-HQ.out];exact⟨by rw [HD.out];exact rfl,zch (zzL _) hbw _ _ _ _ _ _ _ _ _⟩
  subst c3;have HD:Hid (zew s.data.toList=some t):=HWG;have hq1:((s.size-1:Nat):Int)-(([]:List UInt8).length:Int)=(s.size:Int)-1:=by simp;omega
  have hw3:IntKind.i64.wrap ((s.size:Int)-1)=(s.size:Int)-1:=by rw [zzq5];omega
  rw [hq1];clear hq1 HWG hll;obtain⟨q0,q1,q2,q3,q4,q5,q6,q7,q8,z0,z1,z2,z3,z4,z5,z6,z7,z8⟩:=zg hY3;go_wp2_with fail;refine zzj (zT rfl _ _ _ w.heap.size _ _ _ _ rfl (zcq _ _ _ _ _ _ _ _ _ hx3) Tryz.underlying55 (by kernel_rfl)) rfl ?_;rw [<-HQ.out];refine⟨?_,zch (zzL _) hbw _ _ _ _ _ _ _ _ _⟩;rw [HD.out];exact⟨so,c2,rfl,so,c2,rfl,hsl.off (OffB.nine _ _ _ _ _ _ _ _ _ _ _) hlw hw1⟩
def RdC (r:Nat) (l:List UInt8) (w:World):Prop:= ∃s:ByteArray,w.heap[r]?=some (.cells #[.string s] 107 (0,0))/\s.data.toList=l/\s.size<=68719476736
abbrev gaveUp:Ending:=.panicked [{v:=.iface 103 (.agg #[]),recovered:=false}]
def zgj {α:Type} (r:Nat) (w:World) (val:α->Value) (d:Option (α × List UInt8)) (e:Ending) (w':World):Prop:=
 match d with
 |none=>e=gaveUp/\w.grownBy w' (some r)
 |some (v,l)=>e= .returned (val v)/\RdC r l w'/\w.grownBy w' (some r)
theorem RdC.lt {r:Nat} {l:List UInt8} {w:World} (h:RdC r l w):r<w.heap.size:=by obtain⟨s,h,-⟩:=h;exact zc h
theorem RdC.below {r:Nat} {l:List UInt8} {w w':World} (h:RdC r l w) (hb:Below w.heap.size w w'):RdC r l w':=by
 obtain⟨s,h1,h2⟩:=h;exact⟨s,(hb.block r (zc h1)).trans h1,h2⟩
theorem RdC.cells {r:Nat} {s:ByteArray} {w:World} (h:w.heap[r]?=some (.cells #[.string s] 107 (0,0))):w.cell? ⟨r,0,none⟩=some (.string s)/\w.frozen? ⟨r,0,none⟩=false:=
 ⟨zzq2 w r 0 _ _ _ h,zzq17 w r 0 _ _ h⟩
theorem RdC.len {r:Nat} {l:List UInt8} {w:World} (h:RdC r l w):l.length<=68719476736:=by
 obtain⟨s,h1,h2,h3⟩:=h;rw [<-h2,Array.length_toList];exact h3
theorem zsD (c:Nat) (h:c<256):bits .and .u8 (c:Int) 127=((c%128:Nat):Int):=by
 have h1:(BitVec.ofInt 8 (c:Int)).toNat=c:=by
  exact zz2
 show IntKind.u8.wrap ((BitVec.ofInt 8 (c:Int)&&&BitVec.ofInt 8 127).toNat:Int)=_;rw [BitVec.toNat_and,h1,show(BitVec.ofInt 8 127).toNat=2^7-1 from rfl,Nat.and_two_pow_sub_one_eq_mod,IntKind.wrap_u8];omega
theorem zkU {acc c i:Nat} (ha:acc<128^i) (hc:c<128):acc+128^i*c<128^(i+1):=by
 have:128^i*(c+1)<=128^i*128:=Nat.mul_le_mul_left _ hc;rw [Nat.pow_succ];rw [Nat.mul_succ]at this;omega
theorem zsn {acc c i:Nat} (ha:acc<128^i) (hi:i<=5) (hc:c<256):bits .or .u64 (acc:Int) (IntKind.u64.wrap (IntKind.u64.wrap (bits .and .u8 (c:Int) 127)*2^(7*i)))=((acc+128^i*(c%128):Nat):Int):=by
 have h128:(128:Nat)^i=2^(7*i):=by rw [Nat.pow_mul]
 have hn:=zkU ha (show c%128<128 by omega);have h6:128^(i+1)<=128^6:=Nat.pow_le_pow_right (by omega) (by omega);have e6:(128:Nat)^6=4398046511104:=by decide
 have e1:IntKind.u64.wrap (bits .and .u8 (c:Int) 127)=((c%128:Nat):Int):=by rw [zsD c hc,IntKind.wrap_u64];omega
 have e2:IntKind.u64.wrap (((c%128:Nat):Int)*2^(7*i))=((128^i*(c%128):Nat):Int):=by
  rw [show((c%128:Nat):Int)*2^(7*i)=((128^i*(c%128):Nat):Int)by rw [h128,Int.natCast_mul,Int.natCast_pow,Int.mul_comm];rfl,IntKind.wrap_u64];omega
 rw [e1,e2,bits_or_u64_nat _ _ (by omega) (by omega),Nat.or_comm,h128,<-Nat.two_pow_add_eq_or_of_lt (by rw [<-h128];exact ha),<-h128,Nat.add_comm]
theorem zby (r:Nat) (l:List UInt8) (w:World) (h:RdC r l w):
  Calls Tryz.prog 53 #[.pointer (some ⟨r,0,none⟩)] w (zgj r w (fun n:Nat=>Value.int .i64 n) (vD l)):=by
 generalize hQ:zgj r w (fun n:Nat=>Value.int .i64 n) (vD l)=Q at *;have HQ:=zzH hQ;clear hQ;obtain⟨s,hr,hl,hs⟩:=h;obtain⟨c0,f0⟩:=RdC.cells hr;have hrl:=zc hr;have hlen:l.length=s.size:=by rw [<-hl,Array.length_toList];rfl
 go_in;go_wp2_with fail;obtain⟨mn,hmn,hm6,hms,hmo⟩: ∃mn:Nat,min (s.size:Int) 6=(mn:Int)/\mn<=6/\mn<=s.size/\(mn=6\/mn=s.size):=⟨min s.size 6,by omega,by omega,by omega,by omega⟩;rw [hmn];clear hmn;go_loop [3,12] (fun nv iv=> ∃(i acc:Nat),i<=mn/\iv= .int .i64 i/\nv= .int .u64 acc/\acc<128^i/\Hid (vD l=(vR (6-i) (decide (i=0)) (l.drop i)).bind fun x=>some (acc+128^i*x.1,x.2))) (fun _ iv=>mn-(intOf iv).toNat)
 case atStart=>exact⟨0,0,zzZ _,rfl,rfl,by decide,zzH (by
   show vR 6 true l=(vR 6 true l).bind _
   cases vR 6 true l with
   |none=>rfl
   |some x=>simp)⟩
 case round=>
  obtain⟨i,acc,hi,rfl,rfl,ha,HV⟩:=hrel;by_cases hlt:i<mn
  ·have his:i<s.size:=by omega
   have hcl:=(s[i]'his).toNat_lt
   have hdr:l.drop i=s[i]::l.drop (i+1):=by
    have hil:i<l.length:=by omega
    rw [List.drop_eq_getElem_cons hil];congr 1;subst hl;rw [Array.getElem_toList];rfl
   have HO:=zzH (zsn (c:=(s[i]'his).toNat) ha (show i<=5 by omega) hcl);have hk:6-i=(5-i)+1:=by omega
   have HV2:Hid (vD l=(vR ((5-i)+1) (decide (i=0)) (s[i]::l.drop (i+1))).bind fun x=>some (acc+128^i*x.1,x.2)):=zzH (by rw [HV.out,hdr,hk]);unfold vR at HV2;clear HV hdr hk;go_upto_region 7 with fail;rw [HO.out];generalize s[i].toNat=c at *;by_cases c1:c<128
   ·have d1:decide ((c:Int)<128)=true:=zzT (by omega)
    rw [if_pos c1]at HV2;have HM:Hid (((acc+128^i*(c%128):Nat):Int)=((acc+128^i*c:Nat):Int)):=zzH (by rw [Nat.mod_eq_of_lt c1]);rw [HM.out];by_cases c2:c=0/\decide (i=0)=false
    ·have HD:Hid (vD l=none):=zzH (by rw [HV2.out,if_pos c2];rfl)
     have d2:((c:Int)==0)=true:=by rw [beq_iff_eq];omega
     have d3:(i:Int)>0:=by have:=c2.2;have:=of_decide_eq_false this;omega
     clear hmo HV2 c2 HM HO;go_wp2_with fail;exact zz94
    ·have HD:Hid (vD l=some (acc+128^i*c,l.drop (i+1))):=zzH (by rw [HV2.out,if_neg c2];rfl)
     have hnb:acc+128^i*c<4398046511104:=by
      have h1:=zkU ha c1;have:128^(i+1)<=128^6:=Nat.pow_le_pow_right (by omega) (by omega);have e6:(128:Nat)^6=4398046511104:=by decide
      omega
     have hx:(s.extract (i+1) s.size).data.toList=l.drop (i+1):=by
      exact zz116
     have HX:=zzH hx;have hsx:(s.extract (i+1) s.size).size<=68719476736:=by rw [ByteArray.size_extract];omega
     have HSX:=zzH hsx;have hw1:IntKind.i64.wrap ((i:Int)+1)=(i:Int)+1:=by rw [zzq5];omega
     clear hmo HV2 HM HO hx hsx hi;by_cases c3:c=0
     ·have d2:((c:Int)==0)=true:=by rw [beq_iff_eq];omega
      have d3: ¬(i:Int)>0:=by
       intro e;exact c2 ⟨c3,zzD (by omega)⟩
      exact zz115
     ·have d2:((c:Int)==0)=false:=zzB.2 (by omega)
      exact zz115
   ·have d1:decide ((c:Int)<128)=false:=zzD (by omega)
    rw [if_neg c1]at HV2;have HM:Hid (((acc+128^i*(c%128):Nat):Int)=((acc+128^i*(c-128):Nat):Int)):=zzH (by rw [show c%128=c-128 by omega]);rw [HM.out];have hn2:=zkU ha (show c-128<128 by omega);have HN:=zzH hn2
    have HV3:Hid (vD l=(vR (6-(i+1)) (decide (i+1=0)) (l.drop (i+1))).bind fun x=>some ((acc+128^i*(c-128))+128^(i+1)*x.1,x.2)):=zzH (by
     rw [HV2.out,show 6-(i+1)=5-i by omega,show decide (i+1=0)=false from decide_eq_false (by omega)]
     cases vR (5-i) false (l.drop (i+1))with
     |none=>rfl
     |some x=>
      simp only [zzq0,Option.some.injEq,Prod.mk.injEq,and_true];rw [Nat.pow_succ,Nat.mul_add,Nat.mul_assoc,Nat.add_assoc])
    clear HV2 HM HO hn2 c1 hmo;generalize acc+128^i*(c-128)=nn at *;go_wp2_with fail;go_round
    case rel=>exact⟨i+1,nn,by omega,by go_num,rfl,HN.out,HV3⟩
    case measure=>simp [intOf];omega
  ·have HD:Hid (vD l=none):=zzH (by
    rw [HV.out];rcases hmo with h6|h6
    ·rw [show 6-i=0 by omega];rfl
    ·rw [List.drop_of_length_le (by omega)]
     cases 6-i<;>rfl)
   clear hmo HV;go_wp2_with fail;exact zz94
theorem zuy (n:Nat) (h:n<4398046511104):bits .and .i64 (n:Int) 3=((n%4:Nat):Int):=by
 have h1:=zhv n 3 (by omega) (by omega);rw [show((3:Nat):Int)=3 from rfl]at h1;rw [h1,show(3:Nat)=2^2-1 from rfl,Nat.and_two_pow_sub_one_eq_mod]
theorem RdC.off {r:Nat} {l:List UInt8} {X:Nat} {w w':World} (h:RdC r l w) (ho:OffB X w w') (hr:r≠X):RdC r l w':=by
 obtain⟨s,h1,h2⟩:=h;exact⟨s,(ho.2 r hr).trans h1,h2⟩
theorem zcF {l l2:List UInt8} {n:Nat} (h:vD l=some (n,l2)):n<4398046511104/\l2.length<=l.length:=by
 have e:=zgs h;exact⟨e.2,by rw [e.1,zzq1];omega⟩
theorem zf4 (r:Nat) (l:List UInt8) (w:World) (h:RdC r l w):
  Calls Tryz.prog 52 #[.pointer (some ⟨r,0,none⟩)] w (zgj r w Value.string (zcw l)):=by
 generalize hQ:zgj r w Value.string (zcw l)=Q at *;have HQ:=zzH hQ;clear hQ;have HN:=zby r l w h;have HD:Hid (zcw l=(vD l).bind fun x=>zcz x.1 x.2):=zzH rfl;go_in;rcases h1:vD l with _|⟨n,l1⟩
 ·exact zz117
 rw [h1]at HN HD;rw [zzq0]at HD;have hn:=(zcF h1).1;go_upto_region 2 with(go_at_call 53;refine HN.mono ?_;rintro e w1 ⟨rfl,⟨s,hr,hl,hs⟩,hg1⟩);obtain⟨c0,f0⟩:=RdC.cells hr;have hrl:=zc hr;have hlen:l1.length=s.size:=by rw [<-hl,Array.length_toList];rfl
 by_cases c:n<=s.size
 case neg=>
  have HE:Hid (zcw l=none):=zzH (by rw [HD.out];exact if_neg (by show¬n<=l1.length;omega));have d1:(n:Int)>(s.size:Int):=by omega
  clear hlen c HD;go_wp2_with fail;exact⟨rfl,by rw [<-HQ.out,HE.out];exact⟨rfl,hg1⟩⟩
 have HE:Hid (zcw l=some (s.extract 0 n,l1.drop n)):=zzH (by
  rw [HD.out];show(if n<=l1.length then _ else _)=_;rw [if_pos (by omega)];congr 2;apply ByteArray.ext;apply Array.ext';rw [ByteArray.data_extract,Array.toList_extract,List.extract_eq_take_drop,hl];rfl)
 have hx:(s.extract n s.size).data.toList=l1.drop n:=by
  exact zz116
 have HX:=zzH hx;have hsx:(s.extract n s.size).size<=68719476736:=by rw [ByteArray.size_extract];omega
 have HSX:=zzH hsx;have d1: ¬(n:Int)>(s.size:Int):=by omega
 clear hx hsx HD hlen;go_wp2_with fail;rw [<-HQ.out,HE.out];exact⟨rfl,⟨_,zzS w1 r 0 _ _ _ hr,HX.out,HSX.out⟩,zk hg1 (zc1 _ _ _ _)⟩
theorem zjR (r:Nat) (l:List UInt8) (w:World) (h:RdC r l w):
  Calls Tryz.prog 92 #[.pointer (some ⟨r,0,none⟩)] w (zgj r w Value.bool (zek l)):=by
 generalize hQ:zgj r w Value.bool (zek l)=Q at *;have HQ:=zzH hQ;clear hQ;have HN:=zby r l w h;have HD:Hid (zek l=(vD l).bind fun x=>if x.1<=1 then some (decide (x.1=1),x.2)else none):=zzH rfl;go_in;rcases h1:vD l with _|⟨n,l1⟩
 ·exact zz117
 rw [h1]at HN HD;rw [zzq0]at HD;by_cases c:n<=1
 case neg=>
  rw [if_neg c]at HD;have d1:(n:Int)>1:=by omega
  go_wp2_with (go_at_call 53;refine HN.mono ?_;rintro e w1 ⟨rfl,hr,hg1⟩);exact⟨rfl,by rw [<-HQ.out,HD.out];exact⟨rfl,hg1⟩⟩
 rw [if_pos c]at HD;have d1: ¬(n:Int)>1:=by omega
 have HB:Hid (((n:Int)==1)=decide (n=1)):=zzH (by
  by_cases c2:n=1
  ·subst c2;rfl
  ·rw [decide_eq_false c2];exact zzB.2 (by omega))
 clear c;go_wp2_with (go_at_call 53;refine HN.mono ?_;rintro e w1 ⟨rfl,hr,hg1⟩);rw [<-HQ.out,HD.out];exact⟨congrArg (fun b=>Ending.returned (.bool b)) HB.out,hr,hg1⟩
theorem zgS (r:Nat) (l:List UInt8) (w:World) (h:RdC r l w):
  Calls Tryz.prog 93 #[.pointer (some ⟨r,0,none⟩)] w (zgj r w (fun a:RArg=>Value.agg #[.int .i64 a.kind,.int .i64 a.n]) (zb7 l)):=by
 generalize hQ:zgj r w (fun a:RArg=>Value.agg #[.int .i64 a.kind,.int .i64 a.n]) (zb7 l)=Q at *;have HQ:=zzH hQ;clear hQ;have hba:=(zzR w.heap.size w).alloc (zzL _) (.cells #[.int .i64 0,.int .i64 0] 31);have hx:=zzF w (.cells #[.int .i64 0,.int .i64 0] 31);have HN:=zby r l _ (h.below hba);have hgw:=zbr hba (some r);have hrl:=h.lt;have HD:Hid (zb7 l=(vD l).bind fun x=>some (⟨((x.1%4:Nat):Int),((x.1/4:Nat):Int)⟩,x.2)):=zzH rfl;go_in;go_upto_region 1 with fail;generalize w.alloc _=w0 at *;rcases h1:vD l with _|⟨n,l1⟩
 ·rw [h1]at HN HD
  go_wp2_with (go_at_call 53;refine HN.mono ?_;rintro e w1 ⟨rfl,hg1⟩);exact⟨rfl,by rw [<-HQ.out,HD.out];exact⟨rfl,zk hgw hg1⟩⟩
 rw [h1]at HN HD;rw [zzq0]at HD;have hn:=(zcF h1).1;go_upto_region 2 with(go_at_call 53;refine HN.mono ?_;rintro e w1 ⟨rfl,hr,hg1⟩);have hx1:w1.heap[w.heap.size]?=_:=(hg1.block _ (zc hx) (fun e=>by have:=zzf e;omega)).trans hx
 have x0:w1.cell? ⟨w.heap.size,0,none⟩=some (.int .i64 0):=zzq2 w1 _ 0 _ _ _ hx1;have x1:w1.cell? ⟨w.heap.size,1,none⟩=some (.int .i64 0):=zzq2 w1 _ 1 _ _ _ hx1;have y0:w1.frozen? ⟨w.heap.size,0,none⟩=false:=zzq17 w1 _ 0 _ _ hx1;have y1:w1.frozen? ⟨w.heap.size,1,none⟩=false:=zzq17 w1 _ 1 _ _ hx1;go_wp2_with fail;have HA:=zzH (zuy n hn);rw [HA.out,show(n:Int)/4=((n/4:Nat):Int)by omega];have hres:((w1.setCell ⟨w.heap.size,0,none⟩ (.int .i64 ((n%4:Nat):Int))).setCell ⟨w.heap.size,1,none⟩ (.int .i64 ((n/4:Nat):Int))).heap[w.heap.size]?=some (.cells #[.int .i64 ((n%4:Nat):Int),.int .i64 ((n/4:Nat):Int)] 31 (0,0)):=zzS _ _ 1 _ _ _ (zzS _ _ 0 _ _ _ hx1)
 refine zzj (results_cell_row rfl _ _ w.heap.size _ _ _ _ rfl hres Tryz.underlying31 rfl (by kernel_rfl)) rfl ?_;rw [<-HQ.out,HD.out];exact⟨rfl,(hr.off (OffB.set _ _ _ _) (by omega)).off (OffB.set _ _ _ _) (by omega),zbb (zk hgw hg1) (((zzR _ _).setCell (p:=⟨w.heap.size,0,none⟩) (zzL _) _).setCell (p:=⟨w.heap.size,1,none⟩) (zzL _) _)⟩
structure Way (α:Type) where
 on:World->(Nat->Prop)->List Value->α->Prop
 keep: ∀{w w':World} {P P':Nat->Prop} {cs:List Value} {a:α},w.heap.size<=w'.heap.size->(∀b,P b->b<w.heap.size->w'.heap[b]?=w.heap[b]?)->(∀b,P b->b<w.heap.size->P' b)->on w P cs a->on w' P' cs a
theorem Way.below {α:Type} (E:Way α) {w w':World} {P:Nat->Prop} {cs:List Value} {a:α} (hb:Below w.heap.size w w') (h:E.on w P cs a):E.on w' P cs a:=E.keep hb.size (fun b _ hl=>hb.block b hl) (fun b h _=>h) h
def Way.pure {α:Type} (R:List Value->α->Prop):Way α:=⟨fun _ _=>R,fun _ _ _ h=>h⟩
def Way.tm:Way Tm:=⟨fun w P cs t=>TmIn w P 2000 cs t,fun hs hk hP h=>h.kept hs hk hP⟩
structure AccG {α:Type} (T:TypeId) (sz:Nat) (E:Way α) (B:Nat) (v:Value) (ts:List α) (w:World):Prop where
 own: ∃xs,w.ownsRow B T sz v ts.length xs/\RowsIn sz (E.on w (fun b=>B<=b/\v.ownBlock≠some b)) xs ts
section
variable {α:Type} {T:TypeId} {sz:Nat} {E:Way α} {B:Nat}
theorem AccG.nil (w:World):AccG T sz E B (.slice none 0 0) [] w:=⟨⟨[],World.ownsRow_nil _ _ _ _,rfl⟩⟩
theorem AccG.grown {r:Nat} {v:Value} {ts:List α} {w w':World} (h:AccG T sz E B v ts w) (hg:w.grownBy w' (some r)) (hr:r<B):AccG T sz E B v ts w':=by
 obtain⟨xs,ho,hR⟩:=h.own;exact⟨xs,ho.kept hg (.inr fun e=>by have:=(ho.lt r e).1;omega),hR.mono fun _ _ h=>E.keep hg.size (fun b hb hl=>hg.block b hl fun e=>by have:=zzf e;omega) (fun b hb _=>hb) h⟩
theorem AccG.below {v:Value} {ts:List α} {w w':World} (h:AccG T sz E B v ts w) (hb:Below w.heap.size w w'):AccG T sz E B v ts w':=by
 obtain⟨xs,ho,hR⟩:=h.own;exact⟨xs,ho.kept (zbr hb none) (by cases v.ownBlock<;>simp),hR.mono fun _ _ h=>E.below hb h⟩
theorem AccG.sl {v:Value} {ts:List α} {w:World} (h:AccG T sz E B v ts w): ∃ao c,v= .slice ao ts.length c/\SlIn w (B<= ·) sz (E.on w (B<= ·)) ao ts:=by
 obtain⟨xs,ho,hR⟩:=h.own;exact zja ho (hR.mono fun _ _ h=>E.keep (zzL _) (fun _ _ _=>rfl) (fun b hb _=>hb.1) h)
theorem AccG.app {v v':Value} {ts:List α} {w0 w w':World} {xs cs:List Value} {t:α} (hlt: ∀k,v.ownBlock=some k->k<w0.heap.size) (hR:RowsIn sz (E.on w (fun b=>B<=b/\v.ownBlock≠some b)) xs ts)
  (ht:E.on w (w0.heap.size<= ·) cs t) (hcl:cs.length=sz) (hB:B<=w0.heap.size) (hg:w.grownBy w' v.ownBlock) (hat: ∀k,v'.ownBlock=some k->v.ownBlock=some k\/w.heap.size<=k) (ho':w'.ownsRow B T sz v' (ts.length+1) (xs++cs)):AccG T sz E B v' (ts++ [t]) w':=by
 have hne: ∀b,v.ownBlock≠some b->b<w.heap.size->v'.ownBlock≠some b:=fun b h1 h2 e=>by
  rcases hat b e with h|h
  ·exact h1 h
  ·omega
 refine⟨xs++cs,by rw [zzq1];exact ho',RowsIn.snoc hcl (E.keep hg.size (fun b hb hl=>hg.block b hl fun e=>by have:=hlt b e.symm;omega) (fun b hb hl=>⟨zzY hB hb,hne b (fun e=>by have:=hlt b e;omega) hl⟩) ht) (hR.mono fun _ _ h=>E.keep hg.size (fun b hb hl=>hg.block b hl fun e=>hb.2 e.symm) (fun b hb hl=>⟨hb.1,hne b hb.2 hl⟩) h)⟩
end
def zd2 {α:Type} (r:Nat) (w:World) (sz:Nat) (E:Way α) (d:Option (List α × List UInt8)) (e:Ending) (w':World):Prop:=
 match d with
 |none=>e=gaveUp/\w.grownBy w' (some r)
 |some (ts,l)=>(∃so c,e= .returned (.slice so ts.length c)/\SlIn w' (w.heap.size<= ·) sz (E.on w' (w.heap.size<= ·)) so ts)/\RdC r l w'/\w.grownBy w' (some r)
theorem zdF {α:Type} (one:Dec α) (n:Nat) (l:List UInt8):zb2 one (n+1) l=(one l).bind fun x=>(zb2 one n x.2).bind fun y=>some (x.1::y.1,y.2):=rfl
theorem SlIn.onKeep {α:Type} {w w':World} {P P':Nat->Prop} {sz:Nat} {E:Way α} {ao:zzA} {ts:List α} (h:SlIn w P sz (E.on w P) ao ts) (hs:w.heap.size<=w'.heap.size) (hk: ∀b,P b->b<w.heap.size->w'.heap[b]?=w.heap[b]?) (hP: ∀b,P b->b<w.heap.size->P' b):SlIn w' P' sz (E.on w' P') ao ts:=
 h.kept hs hk hP fun _ _ h=>E.keep hs hk hP h
theorem zrq:(Tryz.prog.info? 31).map (fun i=>(i.zero,i.size,i.bytes))=some (some (.agg #[.int .i64 0,.int .i64 0]),2,16):=by kernel_rfl
def zmp (r:Nat) (w:World) (d:Option (RArg × List UInt8)) (e:Ending) (w':World):Prop:=
 match d with
 |none=>e=gaveUp/\w.grownBy w' (some r)
 |some (x,l)=>(e= .returned (.agg #[.int .i64 x.kind,.int .i64 x.n])/\(Way.pure zdY).on w' (w.heap.size<= ·) (#[.int .i64 x.kind,.int .i64 x.n]).toList x)/\RdC r l w'/\w.grownBy w' (some r)
theorem zkY (r:Nat) (l0:List UInt8) (w:World) (HO: ∀(l:List UInt8) (wx:World),RdC r l wx->Calls Tryz.prog 93 #[.pointer (some ⟨r,0,none⟩)] wx (zmp r wx (zb7 l)))
  (HL: ∀l x l',zb7 l=some (x,l')->l'.length<l.length) (h:RdC r l0 w):
  Calls Tryz.prog 94 #[.pointer (some ⟨r,0,none⟩),.func (.func 93) #[.pointer (some ⟨r,0,none⟩)] #[]] w (zd2 r w 2 (Way.pure zdY) (zV zb7 l0)):=by
 generalize hQ:zd2 r w 2 (Way.pure zdY) (zV zb7 l0)=Q at *;have HQ:=zzH hQ;clear hQ;have HOO:=zzH HO;have HLL:=zzH HL;clear HO HL;have HN:=zby r l0 w h;have HD:Hid (zV zb7 l0=(vD l0).bind fun x=>zb2 zb7 x.1 x.2):=zzH rfl;have hrw:=h.lt;have hlen0:=h.len;go_in;rcases h1:vD l0 with _|⟨n,l1⟩
 ·exact zz117
 rw [h1]at HN HD;rw [zzq0]at HD;have hn:=zcF h1;go_wp2_with (go_at_call 53;refine HN.mono ?_;rintro e w1 ⟨rfl,hr1,hg1⟩);go_loopw [6,5] (fun nv lv wr=> ∃(k:Nat) (l:List UInt8) (ts:List RArg),nv= .int .i64 k/\k+ts.length=n/\ts.length+l.length<=l0.length/\Hid (zV zb7 l0=(zb2 zb7 k l).bind fun y=>some (ts++y.1,y.2))/\RdC r l wr/\AccG 31 2 (Way.pure zdY) w.heap.size lv ts wr/\w.grownBy wr (some r)) (fun nv _ _=>(intOf nv).toNat)
 case atStart=>exact⟨n,l1,[],rfl,rfl,by simp;omega,zzH (by rw [HD.out];cases zb2 zb7 n l1<;>rfl),hr1,AccG.nil _,hg1⟩
 case round=>
  obtain⟨k,l,ts,rfl,hk,hll,HI,hrd,hacc,hg⟩:=hrel
  cases k with
  |zero=>
   exact zz118
  |succ k=>
   obtain⟨ao,cap0,rfl,-⟩:=hacc.sl;have hpos:((k+1:Nat):Int)>0:=by omega
   have HT:=HOO.out l wr hrd;rcases h2:zb7 l with _|⟨x,l2⟩
   ·rw [h2]at HT
    go_wp2_with (go_at_call 93;refine HT.mono ?_;rintro e w2 ⟨rfl,hg2⟩);exact zz120
   rw [h2]at HT;have hlt:=HLL.out l x l2 h2;obtain⟨i0,hi,hz0,hz1,hz2⟩:=info_parts zrq
   go_wp2_with (first
    |(go_at_call 93;refine HT.mono ?_;rintro e w2 ⟨⟨rfl,hval⟩,hr2,hg2⟩;obtain⟨xs,ho,hR⟩:=((hacc.grown hg2 hrw).below ((zzR _ _).alloc (zzL _) (.cells #[.int .i64 x.kind,.int .i64 x.n] 31))).own)
    |(at_builtin;refine wpList_append_lies _ rfl (.tmp 13) (.tmp 16) 32 rfl w.heap.size 31 i0 _ 2 16 Tryz.underlying32 hi hz0 hz1 hz2 rfl (by decide) _ ts.length xs rfl ho ⟨w2.heap.size,0,none⟩ 1 1 (#[.int .i64 x.kind,.int .i64 x.n]).toList rfl rfl (World.news_of_block (zzF _ _)) (by simp [Value.oneCell']) (by decide) (by unfold maxLen;omega) (by omega) (by have:=hg.size;have:=hg2.size;simp;omega) _ rfl ?_;intro g cap w3 ho3 hg3 hat hlt3))
   have ho0: ∀k,(Value.slice ao ts.length cap0).ownBlock=some k->w.heap.size<=k/\k<wr.heap.size:=by
    exact zz95
   have hb1:=(zzR w2.heap.size w2).alloc (zzL _) (.cells #[.int .i64 x.kind,.int .i64 x.n] 31)
   have hacc2:AccG 31 2 (Way.pure zdY) w.heap.size (.slice (some ⟨g,0,none⟩) (ts.length+1) cap) (ts++ [x]) w3:=
    AccG.app (fun k e=>(ho0 k e).2) hR (Way.below _ hb1 hval) rfl hg.size hg3 (fun k e=>by
     have e:g=k:=zzf e;subst e;exact hat.imp id fun h=>Nat.le_of_eq h.symm) ho3
   have hr3:RdC r l2 w3:=by
    exact zz119
   have hgw:w.grownBy w3 (some r):=zc3 (zbb (zk hg hg2) (hb1.mono (zzY hg.size hg2.size))) hg3 (fun k e=>(ho0 k e).1);go_wp2_with fail;go_roundw
   case rel=>exact⟨k,l2,ts++ [x],by go_num,by rw [zzq1];simp;omega,by rw [zzq1];simp;omega,zzH (by
    rw [HI.out,zdF,h2,zzq0]
    cases zb2 zb7 k l2 with
    |none=>rfl
    |some y=>simp only [zzX5]),hr3,hacc2,hgw⟩
   case measure=>simp [intOf]
theorem zpC:(Tryz.prog.info? 119).map (fun i=>(i.zero,i.size,i.bytes))=some (some (.agg #[.int .i64 0,.int .i64 0]),2,16):=by kernel_rfl
def zh2 (r:Nat) (w:World) (d:Option (RCase × List UInt8)) (e:Ending) (w':World):Prop:=
 match d with
 |none=>e=gaveUp/\w.grownBy w' (some r)
 |some (x,l)=>(e= .returned (.agg #[.int .i64 x.lit,.int .i64 x.to])/\(Way.pure zdc).on w' (w.heap.size<= ·) (#[.int .i64 x.lit,.int .i64 x.to]).toList x)/\RdC r l w'/\w.grownBy w' (some r)
theorem zjY (r:Nat) (l0:List UInt8) (w:World) (HO: ∀(l:List UInt8) (wx:World),RdC r l wx->Calls Tryz.prog 96 #[.pointer (some ⟨r,0,none⟩)] wx (zh2 r wx (zcx l)))
  (HL: ∀l x l',zcx l=some (x,l')->l'.length<l.length) (h:RdC r l0 w):
  Calls Tryz.prog 95 #[.pointer (some ⟨r,0,none⟩),.func (.func 96) #[.pointer (some ⟨r,0,none⟩)] #[]] w (zd2 r w 2 (Way.pure zdc) (zV zcx l0)):=by
 generalize hQ:zd2 r w 2 (Way.pure zdc) (zV zcx l0)=Q at *;have HQ:=zzH hQ;clear hQ;have HOO:=zzH HO;have HLL:=zzH HL;clear HO HL;have HN:=zby r l0 w h;have HD:Hid (zV zcx l0=(vD l0).bind fun x=>zb2 zcx x.1 x.2):=zzH rfl;have hrw:=h.lt;have hlen0:=h.len;go_in;rcases h1:vD l0 with _|⟨n,l1⟩
 ·exact zz117
 rw [h1]at HN HD;rw [zzq0]at HD;have hn:=zcF h1;go_wp2_with (go_at_call 53;refine HN.mono ?_;rintro e w1 ⟨rfl,hr1,hg1⟩);go_loopw [6,5] (fun nv lv wr=> ∃(k:Nat) (l:List UInt8) (ts:List RCase),nv= .int .i64 k/\k+ts.length=n/\ts.length+l.length<=l0.length/\Hid (zV zcx l0=(zb2 zcx k l).bind fun y=>some (ts++y.1,y.2))/\RdC r l wr/\AccG 119 2 (Way.pure zdc) w.heap.size lv ts wr/\w.grownBy wr (some r)) (fun nv _ _=>(intOf nv).toNat)
 case atStart=>exact⟨n,l1,[],rfl,rfl,by simp;omega,zzH (by rw [HD.out];cases zb2 zcx n l1<;>rfl),hr1,AccG.nil _,hg1⟩
 case round=>
  obtain⟨k,l,ts,rfl,hk,hll,HI,hrd,hacc,hg⟩:=hrel
  cases k with
  |zero=>
   exact zz118
  |succ k=>
   obtain⟨ao,cap0,rfl,-⟩:=hacc.sl;have hpos:((k+1:Nat):Int)>0:=by omega
   have HT:=HOO.out l wr hrd;rcases h2:zcx l with _|⟨x,l2⟩
   ·rw [h2]at HT
    go_wp2_with (go_at_call 96;refine HT.mono ?_;rintro e w2 ⟨rfl,hg2⟩);exact zz120
   rw [h2]at HT;have hlt:=HLL.out l x l2 h2;obtain⟨i0,hi,hz0,hz1,hz2⟩:=info_parts zpC
   go_wp2_with (first
    |(go_at_call 96;refine HT.mono ?_;rintro e w2 ⟨⟨rfl,hval⟩,hr2,hg2⟩;obtain⟨xs,ho,hR⟩:=((hacc.grown hg2 hrw).below ((zzR _ _).alloc (zzL _) (.cells #[.int .i64 x.lit,.int .i64 x.to] 119))).own)
    |(at_builtin;refine wpList_append_lies _ rfl (.tmp 13) (.tmp 16) 33 rfl w.heap.size 119 i0 _ 2 16 Tryz.underlying33 hi hz0 hz1 hz2 rfl (by decide) _ ts.length xs rfl ho ⟨w2.heap.size,0,none⟩ 1 1 (#[.int .i64 x.lit,.int .i64 x.to]).toList rfl rfl (World.news_of_block (zzF _ _)) (by simp [Value.oneCell']) (by decide) (by unfold maxLen;omega) (by omega) (by have:=hg.size;have:=hg2.size;simp;omega) _ rfl ?_;intro g cap w3 ho3 hg3 hat hlt3))
   have ho0: ∀k,(Value.slice ao ts.length cap0).ownBlock=some k->w.heap.size<=k/\k<wr.heap.size:=by
    exact zz95
   have hb1:=(zzR w2.heap.size w2).alloc (zzL _) (.cells #[.int .i64 x.lit,.int .i64 x.to] 119)
   have hacc2:AccG 119 2 (Way.pure zdc) w.heap.size (.slice (some ⟨g,0,none⟩) (ts.length+1) cap) (ts++ [x]) w3:=
    AccG.app (fun k e=>(ho0 k e).2) hR (Way.below _ hb1 hval) rfl hg.size hg3 (fun k e=>by
     have e:g=k:=zzf e;subst e;exact hat.imp id fun h=>Nat.le_of_eq h.symm) ho3
   have hr3:RdC r l2 w3:=by
    exact zz119
   have hgw:w.grownBy w3 (some r):=zc3 (zbb (zk hg hg2) (hb1.mono (zzY hg.size hg2.size))) hg3 (fun k e=>(ho0 k e).1);go_wp2_with fail;go_roundw
   case rel=>exact⟨k,l2,ts++ [x],by go_num,by rw [zzq1];simp;omega,by rw [zzq1];simp;omega,zzH (by
    rw [HI.out,zdF,h2,zzq0]
    cases zb2 zcx k l2 with
    |none=>rfl
    |some y=>simp only [zzX5]),hr3,hacc2,hgw⟩
   case measure=>simp [intOf]
theorem zq8:(Tryz.prog.info? 121).map (fun i=>(i.zero,i.size,i.bytes))=some (some (.agg #[.int .i64 0,.int .i64 0,.int .i64 0,.int .i64 0,.int .i64 0,.bool false]),6,48):=by kernel_rfl
def ziX (r:Nat) (w:World) (d:Option (RSeg × List UInt8)) (e:Ending) (w':World):Prop:=
 match d with
 |none=>e=gaveUp/\w.grownBy w' (some r)
 |some (x,l)=>(e= .returned (.agg #[.int .i64 x.type,.int .i64 x.val.kind,.int .i64 x.val.n,.int .i64 x.size.kind,.int .i64 x.size.n,.bool x.little])/\(Way.pure zdZ).on w' (w.heap.size<= ·) (#[.int .i64 x.type,.int .i64 x.val.kind,.int .i64 x.val.n,.int .i64 x.size.kind,.int .i64 x.size.n,.bool x.little]).toList x)/\RdC r l w'/\w.grownBy w' (some r)
theorem zk4 (r:Nat) (l0:List UInt8) (w:World) (HO: ∀(l:List UInt8) (wx:World),RdC r l wx->Calls Tryz.prog 98 #[.pointer (some ⟨r,0,none⟩)] wx (ziX r wx (zdg l)))
  (HL: ∀l x l',zdg l=some (x,l')->l'.length<l.length) (h:RdC r l0 w):
  Calls Tryz.prog 97 #[.pointer (some ⟨r,0,none⟩),.func (.func 98) #[.pointer (some ⟨r,0,none⟩)] #[]] w (zd2 r w 6 (Way.pure zdZ) (zV zdg l0)):=by
 generalize hQ:zd2 r w 6 (Way.pure zdZ) (zV zdg l0)=Q at *;have HQ:=zzH hQ;clear hQ;have HOO:=zzH HO;have HLL:=zzH HL;clear HO HL;have HN:=zby r l0 w h;have HD:Hid (zV zdg l0=(vD l0).bind fun x=>zb2 zdg x.1 x.2):=zzH rfl;have hrw:=h.lt;have hlen0:=h.len;go_in;rcases h1:vD l0 with _|⟨n,l1⟩
 ·exact zz117
 rw [h1]at HN HD;rw [zzq0]at HD;have hn:=zcF h1;go_wp2_with (go_at_call 53;refine HN.mono ?_;rintro e w1 ⟨rfl,hr1,hg1⟩);go_loopw [6,5] (fun nv lv wr=> ∃(k:Nat) (l:List UInt8) (ts:List RSeg),nv= .int .i64 k/\k+ts.length=n/\ts.length+l.length<=l0.length/\Hid (zV zdg l0=(zb2 zdg k l).bind fun y=>some (ts++y.1,y.2))/\RdC r l wr/\AccG 121 6 (Way.pure zdZ) w.heap.size lv ts wr/\w.grownBy wr (some r)) (fun nv _ _=>(intOf nv).toNat)
 case atStart=>exact⟨n,l1,[],rfl,rfl,by simp;omega,zzH (by rw [HD.out];cases zb2 zdg n l1<;>rfl),hr1,AccG.nil _,hg1⟩
 case round=>
  obtain⟨k,l,ts,rfl,hk,hll,HI,hrd,hacc,hg⟩:=hrel
  cases k with
  |zero=>
   exact zz118
  |succ k=>
   obtain⟨ao,cap0,rfl,-⟩:=hacc.sl;have hpos:((k+1:Nat):Int)>0:=by omega
   have HT:=HOO.out l wr hrd;rcases h2:zdg l with _|⟨x,l2⟩
   ·rw [h2]at HT
    go_wp2_with (go_at_call 98;refine HT.mono ?_;rintro e w2 ⟨rfl,hg2⟩);exact zz120
   rw [h2]at HT;have hlt:=HLL.out l x l2 h2;obtain⟨i0,hi,hz0,hz1,hz2⟩:=info_parts zq8
   go_wp2_with (first
    |(go_at_call 98;refine HT.mono ?_;rintro e w2 ⟨⟨rfl,hval⟩,hr2,hg2⟩;obtain⟨xs,ho,hR⟩:=((hacc.grown hg2 hrw).below ((zzR _ _).alloc (zzL _) (.cells #[.int .i64 x.type,.int .i64 x.val.kind,.int .i64 x.val.n,.int .i64 x.size.kind,.int .i64 x.size.n,.bool x.little] 121))).own)
    |(at_builtin;refine wpList_append_lies _ rfl (.tmp 13) (.tmp 16) 34 rfl w.heap.size 121 i0 _ 6 48 Tryz.underlying34 hi hz0 hz1 hz2 rfl (by decide) _ ts.length xs rfl ho ⟨w2.heap.size,0,none⟩ 1 1 (#[.int .i64 x.type,.int .i64 x.val.kind,.int .i64 x.val.n,.int .i64 x.size.kind,.int .i64 x.size.n,.bool x.little]).toList rfl rfl (World.news_of_block (zzF _ _)) (by simp [Value.oneCell']) (by decide) (by unfold maxLen;omega) (by omega) (by have:=hg.size;have:=hg2.size;simp;omega) _ rfl ?_;intro g cap w3 ho3 hg3 hat hlt3))
   have ho0: ∀k,(Value.slice ao ts.length cap0).ownBlock=some k->w.heap.size<=k/\k<wr.heap.size:=by
    exact zz95
   have hb1:=(zzR w2.heap.size w2).alloc (zzL _) (.cells #[.int .i64 x.type,.int .i64 x.val.kind,.int .i64 x.val.n,.int .i64 x.size.kind,.int .i64 x.size.n,.bool x.little] 121)
   have hacc2:AccG 121 6 (Way.pure zdZ) w.heap.size (.slice (some ⟨g,0,none⟩) (ts.length+1) cap) (ts++ [x]) w3:=
    AccG.app (fun k e=>(ho0 k e).2) hR (Way.below _ hb1 hval) rfl hg.size hg3 (fun k e=>by
     have e:g=k:=zzf e;subst e;exact hat.imp id fun h=>Nat.le_of_eq h.symm) ho3
   have hr3:RdC r l2 w3:=by
    exact zz119
   have hgw:w.grownBy w3 (some r):=zc3 (zbb (zk hg hg2) (hb1.mono (zzY hg.size hg2.size))) hg3 (fun k e=>(ho0 k e).1);go_wp2_with fail;go_roundw
   case rel=>exact⟨k,l2,ts++ [x],by go_num,by rw [zzq1];simp;omega,by rw [zzq1];simp;omega,zzH (by
    rw [HI.out,zdF,h2,zzq0]
    cases zb2 zdg k l2 with
    |none=>rfl
    |some y=>simp only [zzX5]),hr3,hacc2,hgw⟩
   case measure=>simp [intOf]
theorem zpb:(Tryz.prog.info? 57).map (fun i=>(i.zero,i.size,i.bytes))=some (some (.agg #[.string ⟨#[]⟩,.int .i64 0,.bool false,.int .i64 0]),4,40):=by kernel_rfl
def zhL (r:Nat) (w:World) (d:Option (RFunc × List UInt8)) (e:Ending) (w':World):Prop:=
 match d with
 |none=>e=gaveUp/\w.grownBy w' (some r)
 |some (x,l)=>(e= .returned (.agg #[.string x.name,.int .i64 x.arity,.bool x.pub,.int .i64 x.entry])/\(Way.pure zd0).on w' (w.heap.size<= ·) (#[.string x.name,.int .i64 x.arity,.bool x.pub,.int .i64 x.entry]).toList x)/\RdC r l w'/\w.grownBy w' (some r)
theorem zj0 (r:Nat) (l0:List UInt8) (w:World) (HO: ∀(l:List UInt8) (wx:World),RdC r l wx->Calls Tryz.prog 57 #[.pointer (some ⟨r,0,none⟩)] wx (zhL r wx (zcD l)))
  (HL: ∀l x l',zcD l=some (x,l')->l'.length<l.length) (h:RdC r l0 w):
  Calls Tryz.prog 56 #[.pointer (some ⟨r,0,none⟩),.func (.func 57) #[.pointer (some ⟨r,0,none⟩)] #[]] w (zd2 r w 4 (Way.pure zd0) (zV zcD l0)):=by
 generalize hQ:zd2 r w 4 (Way.pure zd0) (zV zcD l0)=Q at *;have HQ:=zzH hQ;clear hQ;have HOO:=zzH HO;have HLL:=zzH HL;clear HO HL;have HN:=zby r l0 w h;have HD:Hid (zV zcD l0=(vD l0).bind fun x=>zb2 zcD x.1 x.2):=zzH rfl;have hrw:=h.lt;have hlen0:=h.len;go_in;rcases h1:vD l0 with _|⟨n,l1⟩
 ·exact zz117
 rw [h1]at HN HD;rw [zzq0]at HD;have hn:=zcF h1;go_wp2_with (go_at_call 53;refine HN.mono ?_;rintro e w1 ⟨rfl,hr1,hg1⟩);go_loopw [6,5] (fun nv lv wr=> ∃(k:Nat) (l:List UInt8) (ts:List RFunc),nv= .int .i64 k/\k+ts.length=n/\ts.length+l.length<=l0.length/\Hid (zV zcD l0=(zb2 zcD k l).bind fun y=>some (ts++y.1,y.2))/\RdC r l wr/\AccG 57 4 (Way.pure zd0) w.heap.size lv ts wr/\w.grownBy wr (some r)) (fun nv _ _=>(intOf nv).toNat)
 case atStart=>exact⟨n,l1,[],rfl,rfl,by simp;omega,zzH (by rw [HD.out];cases zb2 zcD n l1<;>rfl),hr1,AccG.nil _,hg1⟩
 case round=>
  obtain⟨k,l,ts,rfl,hk,hll,HI,hrd,hacc,hg⟩:=hrel
  cases k with
  |zero=>
   exact zz118
  |succ k=>
   obtain⟨ao,cap0,rfl,-⟩:=hacc.sl;have hpos:((k+1:Nat):Int)>0:=by omega
   have HT:=HOO.out l wr hrd;rcases h2:zcD l with _|⟨x,l2⟩
   ·rw [h2]at HT
    go_wp2_with (go_at_call 57;refine HT.mono ?_;rintro e w2 ⟨rfl,hg2⟩);exact zz120
   rw [h2]at HT;have hlt:=HLL.out l x l2 h2;obtain⟨i0,hi,hz0,hz1,hz2⟩:=info_parts zpb
   go_wp2_with (first
    |(go_at_call 57;refine HT.mono ?_;rintro e w2 ⟨⟨rfl,hval⟩,hr2,hg2⟩;obtain⟨xs,ho,hR⟩:=((hacc.grown hg2 hrw).below ((zzR _ _).alloc (zzL _) (.cells #[.string x.name,.int .i64 x.arity,.bool x.pub,.int .i64 x.entry] 57))).own)
    |(at_builtin;refine wpList_append_lies _ rfl (.tmp 13) (.tmp 16) 23 rfl w.heap.size 57 i0 _ 4 40 Tryz.underlying23 hi hz0 hz1 hz2 rfl (by decide) _ ts.length xs rfl ho ⟨w2.heap.size,0,none⟩ 1 1 (#[.string x.name,.int .i64 x.arity,.bool x.pub,.int .i64 x.entry]).toList rfl rfl (World.news_of_block (zzF _ _)) (by simp [Value.oneCell']) (by decide) (by unfold maxLen;omega) (by omega) (by have:=hg.size;have:=hg2.size;simp;omega) _ rfl ?_;intro g cap w3 ho3 hg3 hat hlt3))
   have ho0: ∀k,(Value.slice ao ts.length cap0).ownBlock=some k->w.heap.size<=k/\k<wr.heap.size:=by
    exact zz95
   have hb1:=(zzR w2.heap.size w2).alloc (zzL _) (.cells #[.string x.name,.int .i64 x.arity,.bool x.pub,.int .i64 x.entry] 57)
   have hacc2:AccG 57 4 (Way.pure zd0) w.heap.size (.slice (some ⟨g,0,none⟩) (ts.length+1) cap) (ts++ [x]) w3:=
    AccG.app (fun k e=>(ho0 k e).2) hR (Way.below _ hb1 hval) rfl hg.size hg3 (fun k e=>by
     have e:g=k:=zzf e;subst e;exact hat.imp id fun h=>Nat.le_of_eq h.symm) ho3
   have hr3:RdC r l2 w3:=by
    exact zz119
   have hgw:w.grownBy w3 (some r):=zc3 (zbb (zk hg hg2) (hb1.mono (zzY hg.size hg2.size))) hg3 (fun k e=>(ho0 k e).1);go_wp2_with fail;go_roundw
   case rel=>exact⟨k,l2,ts++ [x],by go_num,by rw [zzq1];simp;omega,by rw [zzq1];simp;omega,zzH (by
    rw [HI.out,zdF,h2,zzq0]
    cases zb2 zcD k l2 with
    |none=>rfl
    |some y=>simp only [zzX5]),hr3,hacc2,hgw⟩
   case measure=>simp [intOf]
theorem zqp:(Tryz.prog.info? 59).map (fun i=>(i.zero,i.size,i.bytes))=some (some (.agg #[.int .i64 0,.int .i64 0,.int .i64 0]),3,24):=by kernel_rfl
def ziZ (r:Nat) (w:World) (d:Option (RFun × List UInt8)) (e:Ending) (w':World):Prop:=
 match d with
 |none=>e=gaveUp/\w.grownBy w' (some r)
 |some (x,l)=>(e= .returned (.agg #[.int .i64 x.arity,.int .i64 x.free,.int .i64 x.entry])/\(Way.pure zbA).on w' (w.heap.size<= ·) (#[.int .i64 x.arity,.int .i64 x.free,.int .i64 x.entry]).toList x)/\RdC r l w'/\w.grownBy w' (some r)
theorem zkW (r:Nat) (l0:List UInt8) (w:World) (HO: ∀(l:List UInt8) (wx:World),RdC r l wx->Calls Tryz.prog 59 #[.pointer (some ⟨r,0,none⟩)] wx (ziZ r wx (fnD l)))
  (HL: ∀l x l',fnD l=some (x,l')->l'.length<l.length) (h:RdC r l0 w):
  Calls Tryz.prog 58 #[.pointer (some ⟨r,0,none⟩),.func (.func 59) #[.pointer (some ⟨r,0,none⟩)] #[]] w (zd2 r w 3 (Way.pure zbA) (zV fnD l0)):=by
 generalize hQ:zd2 r w 3 (Way.pure zbA) (zV fnD l0)=Q at *;have HQ:=zzH hQ;clear hQ;have HOO:=zzH HO;have HLL:=zzH HL;clear HO HL;have HN:=zby r l0 w h;have HD:Hid (zV fnD l0=(vD l0).bind fun x=>zb2 fnD x.1 x.2):=zzH rfl;have hrw:=h.lt;have hlen0:=h.len;go_in;rcases h1:vD l0 with _|⟨n,l1⟩
 ·exact zz117
 rw [h1]at HN HD;rw [zzq0]at HD;have hn:=zcF h1;go_wp2_with (go_at_call 53;refine HN.mono ?_;rintro e w1 ⟨rfl,hr1,hg1⟩);go_loopw [6,5] (fun nv lv wr=> ∃(k:Nat) (l:List UInt8) (ts:List RFun),nv= .int .i64 k/\k+ts.length=n/\ts.length+l.length<=l0.length/\Hid (zV fnD l0=(zb2 fnD k l).bind fun y=>some (ts++y.1,y.2))/\RdC r l wr/\AccG 59 3 (Way.pure zbA) w.heap.size lv ts wr/\w.grownBy wr (some r)) (fun nv _ _=>(intOf nv).toNat)
 case atStart=>exact⟨n,l1,[],rfl,rfl,by simp;omega,zzH (by rw [HD.out];cases zb2 fnD n l1<;>rfl),hr1,AccG.nil _,hg1⟩
 case round=>
  obtain⟨k,l,ts,rfl,hk,hll,HI,hrd,hacc,hg⟩:=hrel
  cases k with
  |zero=>
   exact zz118
  |succ k=>
   obtain⟨ao,cap0,rfl,-⟩:=hacc.sl;have hpos:((k+1:Nat):Int)>0:=by omega
   have HT:=HOO.out l wr hrd;rcases h2:fnD l with _|⟨x,l2⟩
   ·rw [h2]at HT
    go_wp2_with (go_at_call 59;refine HT.mono ?_;rintro e w2 ⟨rfl,hg2⟩);exact zz120
   rw [h2]at HT;have hlt:=HLL.out l x l2 h2;obtain⟨i0,hi,hz0,hz1,hz2⟩:=info_parts zqp
   go_wp2_with (first
    |(go_at_call 59;refine HT.mono ?_;rintro e w2 ⟨⟨rfl,hval⟩,hr2,hg2⟩;obtain⟨xs,ho,hR⟩:=((hacc.grown hg2 hrw).below ((zzR _ _).alloc (zzL _) (.cells #[.int .i64 x.arity,.int .i64 x.free,.int .i64 x.entry] 59))).own)
    |(at_builtin;refine wpList_append_lies _ rfl (.tmp 13) (.tmp 16) 24 rfl w.heap.size 59 i0 _ 3 24 Tryz.underlying24 hi hz0 hz1 hz2 rfl (by decide) _ ts.length xs rfl ho ⟨w2.heap.size,0,none⟩ 1 1 (#[.int .i64 x.arity,.int .i64 x.free,.int .i64 x.entry]).toList rfl rfl (World.news_of_block (zzF _ _)) (by simp [Value.oneCell']) (by decide) (by unfold maxLen;omega) (by omega) (by have:=hg.size;have:=hg2.size;simp;omega) _ rfl ?_;intro g cap w3 ho3 hg3 hat hlt3))
   have ho0: ∀k,(Value.slice ao ts.length cap0).ownBlock=some k->w.heap.size<=k/\k<wr.heap.size:=by
    exact zz95
   have hb1:=(zzR w2.heap.size w2).alloc (zzL _) (.cells #[.int .i64 x.arity,.int .i64 x.free,.int .i64 x.entry] 59)
   have hacc2:AccG 59 3 (Way.pure zbA) w.heap.size (.slice (some ⟨g,0,none⟩) (ts.length+1) cap) (ts++ [x]) w3:=
    AccG.app (fun k e=>(ho0 k e).2) hR (Way.below _ hb1 hval) rfl hg.size hg3 (fun k e=>by
     have e:g=k:=zzf e;subst e;exact hat.imp id fun h=>Nat.le_of_eq h.symm) ho3
   have hr3:RdC r l2 w3:=by
    exact zz119
   have hgw:w.grownBy w3 (some r):=zc3 (zbb (zk hg hg2) (hb1.mono (zzY hg.size hg2.size))) hg3 (fun k e=>(ho0 k e).1);go_wp2_with fail;go_roundw
   case rel=>exact⟨k,l2,ts++ [x],by go_num,by rw [zzq1];simp;omega,by rw [zzq1];simp;omega,zzH (by
    rw [HI.out,zdF,h2,zzq0]
    cases zb2 fnD k l2 with
    |none=>rfl
    |some y=>simp only [zzX5]),hr3,hacc2,hgw⟩
   case measure=>simp [intOf]
end Go.Proofs.YtijekmeocadkeaaGreatDoor
