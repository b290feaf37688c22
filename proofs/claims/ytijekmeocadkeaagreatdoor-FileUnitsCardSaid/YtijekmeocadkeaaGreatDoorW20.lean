import Derived.Test.YtijekmeocadkeaaGreatDoorW17
namespace Go.Proofs.YtijekmeocadkeaaGreatDoor
open Go.RowKit
set_option linter.unusedVariables false
set_option linter.unusedSimpArgs false
set_option maxRecDepth 100000
set_option maxHeartbeats 0
theorem zhd {n:Nat} (h:n<4398046511104):I64 (n:Int):=by unfold I64;omega
theorem zqC {l l':List UInt8} {a:ByteArray} (h:zcw l=some (a,l')):a.size<=maxLen:=by have:=(zfu h).2;unfold maxLen;omega
theorem zfa {l l':List UInt8} {a:RArg} (h:zb7 l=some (a,l')):I64 a.kind/\I64 a.n:=by have:=zfk h;unfold I64;omega
structure KSt (w0:World) (r:Nat) (l:List UInt8) (X:Nat) (o:Obj) (wx:World):Prop where
 rd:RdC r l wx
 gr:w0.grownBy wx (some r)
 x:wx.heap[X]?=some o
 hr:r<w0.heap.size
 hX:X=w0.heap.size
theorem KSt.start {r:Nat} {l:List UInt8} {w:World} (h:RdC r l w) (o:Obj):KSt w r l w.heap.size o (w.alloc o):=
 ⟨h.below (zzE _ _),zbr (zzE _ _) _,zzF _ _,h.lt,rfl⟩
theorem KSt.call {w0:World} {r:Nat} {l:List UInt8} {X:Nat} {o:Obj} {wx wy:World} (h:KSt w0 r l X o wx) {l':List UInt8} (hr:RdC r l' wy) (hg:wx.grownBy wy (some r)):KSt w0 r l' X o wy:=
 ⟨hr,zk h.gr hg,zeB hg h.hr (Nat.le_of_eq h.hX.symm) h.x,h.hr,h.hX⟩
theorem KSt.off {w0:World} {r:Nat} {l:List UInt8} {X:Nat} {o:Obj} {wx wy:World} (h:KSt w0 r l X o wx) (ho:OffB X wx wy) (hb:Below X wx wy):RdC r l wy/\w0.grownBy wy (some r):=by
 have hX:=h.hX;have hr:=h.hr;exact⟨h.rd.off ho (by omega),zbb h.gr (by rw [<-hX];exact hb)⟩
theorem zpd (r:Nat) (l:List UInt8) (w:World) (h:RdC r l w):
  Calls Tryz.prog 96 #[.pointer (some ⟨r,0,none⟩)] w (zh2 r w (zcx l)):=by
 generalize hQ:zh2 r w (zcx l)=Q at *;have HQ:=zzH hQ;clear hQ;have S0:=KSt.start h (.cells #[.int .i64 0,.int .i64 0] 119);have HD:Hid (zcx l=(zbs l).bind fun x=>(zbs x.2).bind fun y=>some (⟨x.1,y.1⟩,y.2)):=zzH rfl;go_in;go_upto_region 1 with fail;generalize w.alloc _=w0 at *;have H1:=zby r l _ S0.rd;rcases h1:vD l with _|⟨a,l1⟩
 ·exact zz122
 rw [h1]at H1;rw [show zbs l=(vD l).bind fun x=>some ((x.1:Int),x.2)from rfl,h1]at HD;rw [zzq0,zzq0]at HD;go_wp2_with (go_at_call 53;refine H1.mono ?_;rintro e v1 ⟨rfl,hr1,hg1⟩;have S1:=S0.call hr1 hg1;clear S0 H1 hr1 hg1);have H2:=zby r l1 _ S1.rd;rcases h2:vD l1 with _|⟨b,l2⟩
 ·exact zz121
 rw [h2]at H2;rw [show zbs l1=(vD l1).bind fun x=>some ((x.1:Int),x.2)from rfl,h2]at HD;rw [zzq0,zzq0]at HD;go_wp2_with (go_at_call 53;refine H2.mono ?_;rintro e v2 ⟨rfl,hr2,hg2⟩;have S2:=S1.call hr2 hg2;clear S1 H2 hr2 hg2;have x0:v2.cell? ⟨w.heap.size,0,none⟩=some (.int .i64 0):=zzq2 v2 _ 0 _ _ _ S2.x;have y0:v2.frozen? ⟨w.heap.size,0,none⟩=false:=zzq17 v2 _ 0 _ _ S2.x;have x1:v2.cell? ⟨w.heap.size,1,none⟩=some (.int .i64 0):=zzq2 v2 _ 1 _ _ _ S2.x;have y1:v2.frozen? ⟨w.heap.size,1,none⟩=false:=zzq17 v2 _ 1 _ _ S2.x);have hres:((v2.setCell ⟨w.heap.size,0,none⟩ (.int .i64 (a:Nat))).setCell ⟨w.heap.size,1,none⟩ (.int .i64 (b:Nat))).heap[w.heap.size]?=some (.cells #[.int .i64 (a:Nat),.int .i64 (b:Nat)] 119 (0,0)):=(zzS _ _ 1 _ _ _ (zzS _ _ 0 _ _ _ S2.x))
 refine zzj (results_cell_row rfl _ _ w.heap.size _ _ _ _ rfl hres Tryz.underlying119 rfl (by kernel_rfl)) rfl ?_;rw [<-HQ.out,HD.out];exact⟨⟨rfl,⟨rfl,(zhd (zcF h1).1),(zhd (zcF h2).1)⟩⟩,S2.off ((OffB.set w.heap.size _ 0 _).trans (OffB.set w.heap.size _ 1 _)) (((zzR _ _).setCell (p:=⟨w.heap.size,0,none⟩) (zzL _) _).setCell (p:=⟨w.heap.size,1,none⟩) (zzL _) _)⟩
theorem zqH (r:Nat) (l:List UInt8) (w:World) (h:RdC r l w):
  Calls Tryz.prog 59 #[.pointer (some ⟨r,0,none⟩)] w (ziZ r w (fnD l)):=by
 generalize hQ:ziZ r w (fnD l)=Q at *;have HQ:=zzH hQ;clear hQ;have S0:=KSt.start h (.cells #[.int .i64 0,.int .i64 0,.int .i64 0] 59);have HD:Hid (fnD l=(zbs l).bind fun x=>(zbs x.2).bind fun y=>(zbs y.2).bind fun z=>some (⟨x.1,y.1,z.1⟩,z.2)):=zzH rfl;go_in;go_upto_region 1 with fail;generalize w.alloc _=w0 at *;have H1:=zby r l _ S0.rd;rcases h1:vD l with _|⟨a,l1⟩
 ·exact zz122
 rw [h1]at H1;rw [show zbs l=(vD l).bind fun x=>some ((x.1:Int),x.2)from rfl,h1]at HD;rw [zzq0,zzq0]at HD;go_wp2_with (go_at_call 53;refine H1.mono ?_;rintro e v1 ⟨rfl,hr1,hg1⟩;have S1:=S0.call hr1 hg1;clear S0 H1 hr1 hg1);have H2:=zby r l1 _ S1.rd;rcases h2:vD l1 with _|⟨b,l2⟩
 ·exact zz121
 rw [h2]at H2;rw [show zbs l1=(vD l1).bind fun x=>some ((x.1:Int),x.2)from rfl,h2]at HD;rw [zzq0,zzq0]at HD;go_wp2_with (go_at_call 53;refine H2.mono ?_;rintro e v2 ⟨rfl,hr2,hg2⟩;have S2:=S1.call hr2 hg2;clear S1 H2 hr2 hg2);have H3:=zby r l2 _ S2.rd;rcases h3:vD l2 with _|⟨c,l3⟩
 ·rw [h3]at H3
  rw [show zbs l2=(vD l2).bind fun x=>some ((x.1:Int),x.2)from rfl,h3]at HD;go_wp2_with (go_at_call 53;refine H3.mono ?_;rintro e v3 ⟨rfl,hg3⟩);exact zz106
 rw [h3]at H3;rw [show zbs l2=(vD l2).bind fun x=>some ((x.1:Int),x.2)from rfl,h3]at HD;rw [zzq0,zzq0]at HD;go_wp2_with (go_at_call 53;refine H3.mono ?_;rintro e v3 ⟨rfl,hr3,hg3⟩;have S3:=S2.call hr3 hg3;clear S2 H3 hr3 hg3;have x0:v3.cell? ⟨w.heap.size,0,none⟩=some (.int .i64 0):=zzq2 v3 _ 0 _ _ _ S3.x;have y0:v3.frozen? ⟨w.heap.size,0,none⟩=false:=zzq17 v3 _ 0 _ _ S3.x;have x1:v3.cell? ⟨w.heap.size,1,none⟩=some (.int .i64 0):=zzq2 v3 _ 1 _ _ _ S3.x;have y1:v3.frozen? ⟨w.heap.size,1,none⟩=false:=zzq17 v3 _ 1 _ _ S3.x;have x2:v3.cell? ⟨w.heap.size,2,none⟩=some (.int .i64 0):=zzq2 v3 _ 2 _ _ _ S3.x;have y2:v3.frozen? ⟨w.heap.size,2,none⟩=false:=zzq17 v3 _ 2 _ _ S3.x);have hres:(((v3.setCell ⟨w.heap.size,0,none⟩ (.int .i64 (a:Nat))).setCell ⟨w.heap.size,1,none⟩ (.int .i64 (b:Nat))).setCell ⟨w.heap.size,2,none⟩ (.int .i64 (c:Nat))).heap[w.heap.size]?=some (.cells #[.int .i64 (a:Nat),.int .i64 (b:Nat),.int .i64 (c:Nat)] 59 (0,0)):=(zzS _ _ 2 _ _ _ (zzS _ _ 1 _ _ _ (zzS _ _ 0 _ _ _ S3.x)))
 refine zzj (results_cell_row rfl _ _ w.heap.size _ _ _ _ rfl hres Tryz.underlying59 rfl (by kernel_rfl)) rfl ?_;rw [<-HQ.out,HD.out];exact⟨⟨rfl,⟨rfl,(zhd (zcF h1).1),(zhd (zcF h2).1),(zhd (zcF h3).1)⟩⟩,S3.off (((OffB.set w.heap.size _ 0 _).trans (OffB.set w.heap.size _ 1 _)).trans (OffB.set w.heap.size _ 2 _)) ((((zzR _ _).setCell (p:=⟨w.heap.size,0,none⟩) (zzL _) _).setCell (p:=⟨w.heap.size,1,none⟩) (zzL _) _).setCell (p:=⟨w.heap.size,2,none⟩) (zzL _) _)⟩
theorem zpD (r:Nat) (l:List UInt8) (w:World) (h:RdC r l w):
  Calls Tryz.prog 57 #[.pointer (some ⟨r,0,none⟩)] w (zhL r w (zcD l)):=by
 generalize hQ:zhL r w (zcD l)=Q at *;have HQ:=zzH hQ;clear hQ;have S0:=KSt.start h (.cells #[.string ⟨#[]⟩,.int .i64 0,.bool false,.int .i64 0] 57);have HD:Hid (zcD l=(zcw l).bind fun x=>(zbs x.2).bind fun y=>(zek y.2).bind fun z=>(zbs z.2).bind fun q=>some (⟨x.1,y.1,z.1,q.1⟩,q.2)):=zzH rfl;go_in;go_upto_region 1 with fail;generalize w.alloc _=w0 at *;have H1:=zf4 r l _ S0.rd;rcases h1:zcw l with _|⟨a,l1⟩
 ·exact zz123
 rw [h1]at H1 HD;rw [zzq0]at HD;go_wp2_with (go_at_call 52;refine H1.mono ?_;rintro e v1 ⟨rfl,hr1,hg1⟩;have S1:=S0.call hr1 hg1;clear S0 H1 hr1 hg1);have H2:=zby r l1 _ S1.rd;rcases h2:vD l1 with _|⟨b,l2⟩
 ·exact zz121
 rw [h2]at H2;rw [show zbs l1=(vD l1).bind fun x=>some ((x.1:Int),x.2)from rfl,h2]at HD;rw [zzq0,zzq0]at HD;go_wp2_with (go_at_call 53;refine H2.mono ?_;rintro e v2 ⟨rfl,hr2,hg2⟩;have S2:=S1.call hr2 hg2;clear S1 H2 hr2 hg2);have H3:=zjR r l2 _ S2.rd;rcases h3:zek l2 with _|⟨c,l3⟩
 ·rw [h3]at H3 HD
  go_wp2_with (go_at_call 92;refine H3.mono ?_;rintro e v3 ⟨rfl,hg3⟩);exact zz106
 rw [h3]at H3 HD;rw [zzq0]at HD;go_wp2_with (go_at_call 92;refine H3.mono ?_;rintro e v3 ⟨rfl,hr3,hg3⟩;have S3:=S2.call hr3 hg3;clear S2 H3 hr3 hg3);have H4:=zby r l3 _ S3.rd;rcases h4:vD l3 with _|⟨d,l4⟩
 ·rw [h4]at H4
  rw [show zbs l3=(vD l3).bind fun x=>some ((x.1:Int),x.2)from rfl,h4]at HD;go_wp2_with (go_at_call 53;refine H4.mono ?_;rintro e v4 ⟨rfl,hg4⟩);exact zz99
 rw [h4]at H4;rw [show zbs l3=(vD l3).bind fun x=>some ((x.1:Int),x.2)from rfl,h4]at HD;rw [zzq0,zzq0]at HD;go_wp2_with (go_at_call 53;refine H4.mono ?_;rintro e v4 ⟨rfl,hr4,hg4⟩;have S4:=S3.call hr4 hg4;clear S3 H4 hr4 hg4;have x0:v4.cell? ⟨w.heap.size,0,none⟩=some (.string ⟨#[]⟩):=zzq2 v4 _ 0 _ _ _ S4.x;have y0:v4.frozen? ⟨w.heap.size,0,none⟩=false:=zzq17 v4 _ 0 _ _ S4.x;have x1:v4.cell? ⟨w.heap.size,1,none⟩=some (.int .i64 0):=zzq2 v4 _ 1 _ _ _ S4.x;have y1:v4.frozen? ⟨w.heap.size,1,none⟩=false:=zzq17 v4 _ 1 _ _ S4.x;have x2:v4.cell? ⟨w.heap.size,2,none⟩=some (.bool false):=zzq2 v4 _ 2 _ _ _ S4.x;have y2:v4.frozen? ⟨w.heap.size,2,none⟩=false:=zzq17 v4 _ 2 _ _ S4.x;have x3:v4.cell? ⟨w.heap.size,3,none⟩=some (.int .i64 0):=zzq2 v4 _ 3 _ _ _ S4.x;have y3:v4.frozen? ⟨w.heap.size,3,none⟩=false:=zzq17 v4 _ 3 _ _ S4.x);have hres:((((v4.setCell ⟨w.heap.size,0,none⟩ (.string a)).setCell ⟨w.heap.size,1,none⟩ (.int .i64 (b:Nat))).setCell ⟨w.heap.size,2,none⟩ (.bool c)).setCell ⟨w.heap.size,3,none⟩ (.int .i64 (d:Nat))).heap[w.heap.size]?=some (.cells #[.string a,.int .i64 (b:Nat),.bool c,.int .i64 (d:Nat)] 57 (0,0)):=(zzS _ _ 3 _ _ _ (zzS _ _ 2 _ _ _ (zzS _ _ 1 _ _ _ (zzS _ _ 0 _ _ _ S4.x))))
 refine zzj (results_cell_row rfl _ _ w.heap.size _ _ _ _ rfl hres Tryz.underlying57 rfl (by kernel_rfl)) rfl ?_;rw [<-HQ.out,HD.out];exact⟨⟨rfl,⟨rfl,(zqC h1),(zhd (zcF h2).1),(zhd (zcF h4).1)⟩⟩,S4.off ((((OffB.set w.heap.size _ 0 _).trans (OffB.set w.heap.size _ 1 _)).trans (OffB.set w.heap.size _ 2 _)).trans (OffB.set w.heap.size _ 3 _)) (((((zzR _ _).setCell (p:=⟨w.heap.size,0,none⟩) (zzL _) _).setCell (p:=⟨w.heap.size,1,none⟩) (zzL _) _).setCell (p:=⟨w.heap.size,2,none⟩) (zzL _) _).setCell (p:=⟨w.heap.size,3,none⟩) (zzL _) _)⟩
theorem zqA (r:Nat) (l:List UInt8) (w:World) (h:RdC r l w):
  Calls Tryz.prog 98 #[.pointer (some ⟨r,0,none⟩)] w (ziX r w (zdg l)):=by
 generalize hQ:ziX r w (zdg l)=Q at *;have HQ:=zzH hQ;clear hQ;have S0:=KSt.start h (.cells #[.int .i64 0,.int .i64 0,.int .i64 0,.int .i64 0,.int .i64 0,.bool false] 121);have HD:Hid (zdg l=(zbs l).bind fun x=>(zb7 x.2).bind fun y=>(zb7 y.2).bind fun z=>(zek z.2).bind fun q=>some (⟨x.1,y.1,z.1,q.1⟩,q.2)):=zzH rfl;go_in;go_upto_region 1 with fail;generalize w.alloc _=w0 at *;have H1:=zby r l _ S0.rd;rcases h1:vD l with _|⟨a,l1⟩
 ·exact zz122
 rw [h1]at H1;rw [show zbs l=(vD l).bind fun x=>some ((x.1:Int),x.2)from rfl,h1]at HD;rw [zzq0,zzq0]at HD;go_wp2_with (go_at_call 53;refine H1.mono ?_;rintro e v1 ⟨rfl,hr1,hg1⟩;have S1:=S0.call hr1 hg1;clear S0 H1 hr1 hg1);have H2:=zgS r l1 _ S1.rd;rcases h2:zb7 l1 with _|⟨b,l2⟩
 ·rw [h2]at H2 HD
  go_wp2_with (go_at_call 93;refine H2.mono ?_;rintro e v2 ⟨rfl,hg2⟩);exact zz105
 rw [h2]at H2 HD;rw [zzq0]at HD;go_wp2_with (go_at_call 93;refine H2.mono ?_;rintro e v2 ⟨rfl,hr2,hg2⟩;have S2:=S1.call hr2 hg2;clear S1 H2 hr2 hg2);have H3:=zgS r l2 _ S2.rd;rcases h3:zb7 l2 with _|⟨c,l3⟩
 ·rw [h3]at H3 HD
  go_wp2_with (go_at_call 93;refine H3.mono ?_;rintro e v3 ⟨rfl,hg3⟩);exact zz106
 rw [h3]at H3 HD;rw [zzq0]at HD;go_wp2_with (go_at_call 93;refine H3.mono ?_;rintro e v3 ⟨rfl,hr3,hg3⟩;have S3:=S2.call hr3 hg3;clear S2 H3 hr3 hg3);have H4:=zjR r l3 _ S3.rd;rcases h4:zek l3 with _|⟨d,l4⟩
 ·rw [h4]at H4 HD
  go_wp2_with (go_at_call 92;refine H4.mono ?_;rintro e v4 ⟨rfl,hg4⟩);exact zz99
 rw [h4]at H4 HD;rw [zzq0]at HD;go_wp2_with (go_at_call 92;refine H4.mono ?_;rintro e v4 ⟨rfl,hr4,hg4⟩;have S4:=S3.call hr4 hg4;clear S3 H4 hr4 hg4;have x0:v4.cell? ⟨w.heap.size,0,none⟩=some (.int .i64 0):=zzq2 v4 _ 0 _ _ _ S4.x;have y0:v4.frozen? ⟨w.heap.size,0,none⟩=false:=zzq17 v4 _ 0 _ _ S4.x;have x1:v4.cell? ⟨w.heap.size,1,none⟩=some (.int .i64 0):=zzq2 v4 _ 1 _ _ _ S4.x;have y1:v4.frozen? ⟨w.heap.size,1,none⟩=false:=zzq17 v4 _ 1 _ _ S4.x;have x2:v4.cell? ⟨w.heap.size,2,none⟩=some (.int .i64 0):=zzq2 v4 _ 2 _ _ _ S4.x;have y2:v4.frozen? ⟨w.heap.size,2,none⟩=false:=zzq17 v4 _ 2 _ _ S4.x;have x3:v4.cell? ⟨w.heap.size,3,none⟩=some (.int .i64 0):=zzq2 v4 _ 3 _ _ _ S4.x;have y3:v4.frozen? ⟨w.heap.size,3,none⟩=false:=zzq17 v4 _ 3 _ _ S4.x;have x4:v4.cell? ⟨w.heap.size,4,none⟩=some (.int .i64 0):=zzq2 v4 _ 4 _ _ _ S4.x;have y4:v4.frozen? ⟨w.heap.size,4,none⟩=false:=zzq17 v4 _ 4 _ _ S4.x;have x5:v4.cell? ⟨w.heap.size,5,none⟩=some (.bool false):=zzq2 v4 _ 5 _ _ _ S4.x;have y5:v4.frozen? ⟨w.heap.size,5,none⟩=false:=zzq17 v4 _ 5 _ _ S4.x);have hres:((((((v4.setCell ⟨w.heap.size,0,none⟩ (.int .i64 (a:Nat))).setCell ⟨w.heap.size,1,none⟩ (.int .i64 b.kind)).setCell ⟨w.heap.size,2,none⟩ (.int .i64 b.n)).setCell ⟨w.heap.size,3,none⟩ (.int .i64 c.kind)).setCell ⟨w.heap.size,4,none⟩ (.int .i64 c.n)).setCell ⟨w.heap.size,5,none⟩ (.bool d)).heap[w.heap.size]?=some (.cells #[.int .i64 (a:Nat),.int .i64 b.kind,.int .i64 b.n,.int .i64 c.kind,.int .i64 c.n,.bool d] 121 (0,0)):=(zzS _ _ 5 _ _ _ (zzS _ _ 4 _ _ _ (zzS _ _ 3 _ _ _ (zzS _ _ 2 _ _ _ (zzS _ _ 1 _ _ _ (zzS _ _ 0 _ _ _ S4.x))))))
 refine zzj (results_cell_row rfl _ _ w.heap.size _ _ _ _ rfl hres Tryz.underlying121 rfl (by kernel_rfl)) rfl ?_;rw [<-HQ.out,HD.out];exact⟨⟨rfl,⟨rfl,(zhd (zcF h1).1),(zfa h2).1,(zfa h2).2,(zfa h3).1,(zfa h3).2⟩⟩,S4.off ((((((OffB.set w.heap.size _ 0 _).trans (OffB.set w.heap.size _ 1 _)).trans (OffB.set w.heap.size _ 2 _)).trans (OffB.set w.heap.size _ 3 _)).trans (OffB.set w.heap.size _ 4 _)).trans (OffB.set w.heap.size _ 5 _)) (((((((zzR _ _).setCell (p:=⟨w.heap.size,0,none⟩) (zzL _) _).setCell (p:=⟨w.heap.size,1,none⟩) (zzL _) _).setCell (p:=⟨w.heap.size,2,none⟩) (zzL _) _).setCell (p:=⟨w.heap.size,3,none⟩) (zzL _) _).setCell (p:=⟨w.heap.size,4,none⟩) (zzL _) _).setCell (p:=⟨w.heap.size,5,none⟩) (zzL _) _)⟩
theorem zoK (r:Nat) (l:List UInt8) (w:World) (h:RdC r l w):Calls Tryz.prog 93 #[.pointer (some ⟨r,0,none⟩)] w (zmp r w (zb7 l)):=by
 refine(zgS r l w h).mono ?_;intro e w1 hp;rcases h1:zb7 l with _|⟨a,l1⟩
 ·rw [h1]at hp;exact hp
 ·rw [h1]at hp
  have:=zfk h1;exact⟨⟨hp.1,rfl,(zfa h1).1,(zfa h1).2⟩,hp.2⟩
theorem zrP:(Tryz.prog.info? 55).map (fun i=>(i.zero,i.size,i.bytes))=some (some (.agg #[.int .i64 0,.int .i64 0,.int .i64 0,.string ⟨#[]⟩,.string ⟨#[]⟩,.int .i64 0,.slice none 0 0,.string ⟨#[]⟩,.int .i64 0]),9,112):=by kernel_rfl
def ziY (r:Nat) (w:World) (d:Option (Tm × List UInt8)) (e:Ending) (w':World):Prop:=
 match d with
 |none=>e=gaveUp/\w.grownBy w' (some r)
 |some (x,l)=>(∃so c,e= .returned (.agg #[.int .i64 x.kind,.int .i64 x.int,.int .i64 x.gen,.string x.name,.string x.func,.int .i64 x.arity,.slice so x.items.length c,.string x.bytes,.int .i64 x.bits])/\Way.tm.on w' (w.heap.size<= ·) (#[.int .i64 x.kind,.int .i64 x.int,.int .i64 x.gen,.string x.name,.string x.func,.int .i64 x.arity,.slice so x.items.length c,.string x.bytes,.int .i64 x.bits]).toList x)/\RdC r l w'/\w.grownBy w' (some r)
theorem Way.tmOf {w:World} {P:Nat->Prop} {t:Tm} {so:zzA} {c:Nat} (h:SlIn w P 9 (TmIn w P 1999) so t.items):Way.tm.on w P (tmL t so c) t:=⟨so,c,rfl,h⟩
theorem zrM (r:Nat) (l:List UInt8) (w:World) (h:RdC r l w):
  Calls Tryz.prog 55 #[.pointer (some ⟨r,0,none⟩)] w (ziY r w (zdh l)):=by
 generalize hQ:ziY r w (zdh l)=Q at *;have HQ:=zzH hQ;clear hQ;have S0:=KSt.start h (.cells zC 55);unfold zC at S0;have HD:Hid (zdh l=(zcw l).bind fun x=>(zew x.1.data.toList).bind fun t=>some (t,x.2)):=zzH rfl;go_in;go_upto_region 1 with fail;generalize w.alloc _=w0 at *;have H1:=zf4 r l _ S0.rd;rcases h1:zcw l with _|⟨s,l1⟩
 ·exact zz123
 rw [h1]at H1 HD;rw [zzq0]at HD;have hsz:s.size<=9223372036854775807:=by have:=(zfu h1).2;omega
 have HG:=fun wx=>zqi s wx hsz
 unfold zmu at HG;clear hsz;rcases h2:zew s.data.toList with _|t
 ·rw [h2]at HD
  rw [h2]at HG;go_wp2_with (first|(go_at_call 52;refine H1.mono ?_;rintro e v1 ⟨rfl,hr1,hg1⟩;have S1:=S0.call hr1 hg1;clear S0 hr1 hg1 H1)|(go_at_call 91;refine(HG _).mono ?_;rintro e v2 ⟨rfl,hb2⟩;have hgr:w.grownBy v2 (some r):=zbb S1.gr (hb2.mono S1.gr.size)));exact⟨rfl,by rw [<-HQ.out,HD.out];exact⟨rfl,zbb hgr ((zzR _ _).alloc hgr.size _)⟩⟩
 rw [h2]at HD;rw [h2]at HG;go_upto_region 4 with(first|(go_at_call 52;refine H1.mono ?_;rintro e v1 ⟨rfl,hr1,hg1⟩;have S1:=S0.call hr1 hg1;clear S0 hr1 hg1 H1)|(go_at_call 91;refine(HG _).mono ?_;rintro e v2 ⟨⟨so,c,rfl,htm⟩,hb2⟩));have hB3:=(zzR v2.heap.size v2).alloc (zzL _) (.cells #[.int .i64 t.kind,.int .i64 t.int,.int .i64 t.gen,.string t.name,.string t.func,.int .i64 t.arity,.slice so t.items.length c,.string t.bytes,.int .i64 t.bits] 55);have hY3:=zzF v2 (.cells #[.int .i64 t.kind,.int .i64 t.int,.int .i64 t.gen,.string t.name,.string t.func,.int .i64 t.arity,.slice so t.items.length c,.string t.bytes,.int .i64 t.bits] 55);have hlw:=zc S1.x;have hX3:=(hB3.block _ (zzW hlw hb2.size)).trans ((hb2.block _ hlw).trans S1.x);have hbb:=hb2.trans (hB3.mono hb2.size);have hrd:=S1.rd.below hbb;have hgr:w.grownBy _ (some r):=zbb S1.gr (hbb.mono S1.gr.size);have hsl:=htm.sl.new hB3;have hw1:w.heap.size<=v1.heap.size:=S1.gr.size;have hne2:w.heap.size<v2.heap.size:=zzW hlw hb2.size;have hrw:=S1.hr;clear htm hB3 hb2 hbb S1 HG;generalize v2.alloc _=v3 at *;generalize v2.heap.size=Y at *;obtain⟨x0,x1,x2,x3,x4,x5,x6,x7,x8,y0,y1,y2,y3,y4,y5,y6,y7,y8⟩:=zg hX3;obtain⟨q0,q1,q2,q3,q4,q5,q6,q7,q8,z0,z1,z2,z3,z4,z5,z6,z7,z8⟩:=zg hY3;go_wp2_with fail;refine zzj (results_cell_row rfl _ _ w.heap.size _ _ _ _ rfl (zcq _ _ _ _ _ _ _ _ _ hX3) Tryz.underlying55 rfl (by kernel_rfl)) rfl ?_;rw [<-HQ.out,HD.out];exact⟨⟨so,c,rfl,Way.tmOf (hsl.off (OffB.nine _ _ _ _ _ _ _ _ _ _ _) hlw hw1)⟩,hrd.off (OffB.nine _ _ _ _ _ _ _ _ _ _ _) (by omega),zbb hgr (zch (zzL _) (zzR _ _) _ _ _ _ _ _ _ _ _)⟩
theorem zkd (r:Nat) (l0:List UInt8) (w:World) (HO: ∀(l:List UInt8) (wx:World),RdC r l wx->Calls Tryz.prog 55 #[.pointer (some ⟨r,0,none⟩)] wx (ziY r wx (zdh l)))
  (HL: ∀l x l',zdh l=some (x,l')->l'.length<l.length) (h:RdC r l0 w):
  Calls Tryz.prog 54 #[.pointer (some ⟨r,0,none⟩),.func (.func 55) #[.pointer (some ⟨r,0,none⟩)] #[]] w (zd2 r w 9 Way.tm (zV zdh l0)):=by
 generalize hQ:zd2 r w 9 Way.tm (zV zdh l0)=Q at *;have HQ:=zzH hQ;clear hQ;have HOO:=zzH HO;have HLL:=zzH HL;clear HO HL;have HN:=zby r l0 w h;have HD:Hid (zV zdh l0=(vD l0).bind fun x=>zb2 zdh x.1 x.2):=zzH rfl;have hrw:=h.lt;have hlen0:=h.len;go_in;rcases h1:vD l0 with _|⟨n,l1⟩
 ·exact zz117
 rw [h1]at HN HD;rw [zzq0]at HD;have hn:=zcF h1;go_wp2_with (go_at_call 53;refine HN.mono ?_;rintro e w1 ⟨rfl,hr1,hg1⟩);go_loopw [6,5] (fun nv lv wr=> ∃(k:Nat) (l:List UInt8) (ts:List Tm),nv= .int .i64 k/\k+ts.length=n/\ts.length+l.length<=l0.length/\Hid (zV zdh l0=(zb2 zdh k l).bind fun y=>some (ts++y.1,y.2))/\RdC r l wr/\AccG 55 9 Way.tm w.heap.size lv ts wr/\w.grownBy wr (some r)) (fun nv _ _=>(intOf nv).toNat)
 case atStart=>exact⟨n,l1,[],rfl,rfl,by simp;omega,zzH (by rw [HD.out];cases zb2 zdh n l1<;>rfl),hr1,AccG.nil _,hg1⟩
 case round=>
  obtain⟨k,l,ts,rfl,hk,hll,HI,hrd,hacc,hg⟩:=hrel
  cases k with
  |zero=>
   exact zz118
  |succ k=>
   obtain⟨ao,cap0,rfl,-⟩:=hacc.sl;have hpos:((k+1:Nat):Int)>0:=by omega
   have HT:=HOO.out l wr hrd;rcases h2:zdh l with _|⟨x,l2⟩
   ·rw [h2]at HT
    go_wp2_with (go_at_call 55;refine HT.mono ?_;rintro e w2 ⟨rfl,hg2⟩);exact zz120
   rw [h2]at HT;have hlt:=HLL.out l x l2 h2;obtain⟨i0,hi,hz0,hz1,hz2⟩:=info_parts zrP
   go_wp2_with (first
    |(go_at_call 55;refine HT.mono ?_;rintro e w2 ⟨⟨sx,cx,rfl,hval⟩,hr2,hg2⟩;obtain⟨xs,ho,hR⟩:=((hacc.grown hg2 hrw).below ((zzR _ _).alloc (zzL _) (.cells #[.int .i64 x.kind,.int .i64 x.int,.int .i64 x.gen,.string x.name,.string x.func,.int .i64 x.arity,.slice sx x.items.length cx,.string x.bytes,.int .i64 x.bits] 55))).own)
    |(at_builtin;refine wpList_append_lies _ rfl (.tmp 13) (.tmp 16) 22 rfl w.heap.size 55 i0 _ 9 112 Tryz.underlying22 hi hz0 hz1 hz2 rfl (by decide) _ ts.length xs rfl ho ⟨w2.heap.size,0,none⟩ 1 1 (#[.int .i64 x.kind,.int .i64 x.int,.int .i64 x.gen,.string x.name,.string x.func,.int .i64 x.arity,.slice sx x.items.length cx,.string x.bytes,.int .i64 x.bits]).toList rfl rfl (World.news_of_block (zzF _ _)) (by simp [Value.oneCell']) (by decide) (by unfold maxLen;omega) (by omega) (by have:=hg.size;have:=hg2.size;simp;omega) _ rfl ?_;intro g cap w3 ho3 hg3 hat hlt3))
   have ho0: ∀k,(Value.slice ao ts.length cap0).ownBlock=some k->w.heap.size<=k/\k<wr.heap.size:=by
    exact zz95
   have hb1:=(zzR w2.heap.size w2).alloc (zzL _) (.cells #[.int .i64 x.kind,.int .i64 x.int,.int .i64 x.gen,.string x.name,.string x.func,.int .i64 x.arity,.slice sx x.items.length cx,.string x.bytes,.int .i64 x.bits] 55)
   have hacc2:AccG 55 9 Way.tm w.heap.size (.slice (some ⟨g,0,none⟩) (ts.length+1) cap) (ts++ [x]) w3:=
    AccG.app (fun k e=>(ho0 k e).2) hR (Way.below _ hb1 hval) rfl hg.size hg3 (fun k e=>by
     have e:g=k:=zzf e;subst e;exact hat.imp id fun h=>Nat.le_of_eq h.symm) ho3
   have hr3:RdC r l2 w3:=by
    exact zz119
   have hgw:w.grownBy w3 (some r):=zc3 (zbb (zk hg hg2) (hb1.mono (zzY hg.size hg2.size))) hg3 (fun k e=>(ho0 k e).1);go_wp2_with fail;go_roundw
   case rel=>exact⟨k,l2,ts++ [x],by go_num,by rw [zzq1];simp;omega,by rw [zzq1];simp;omega,zzH (by
    rw [HI.out,zdF,h2,zzq0]
    cases zb2 zdh k l2 with
    |none=>rfl
    |some y=>simp only [zzX5]),hr3,hacc2,hgw⟩
   case measure=>simp [intOf]
theorem zdG {w:World} {B:Nat} {v0 v1 v2 v3 v4 v5 v6 v7 v8 v9:Value} (h:w.heap[B]?=some (.cells #[v0,v1,v2,v3,v4,v5,v6,v7,v8,v9] 36 (0,0))):
  w.cell? ⟨B,0,none⟩=some v0/\w.cell? ⟨B,1,none⟩=some v1/\w.cell? ⟨B,2,none⟩=some v2/\w.cell? ⟨B,3,none⟩=some v3/\w.cell? ⟨B,4,none⟩=some v4/\w.cell? ⟨B,5,none⟩=some v5/\w.cell? ⟨B,6,none⟩=some v6/\w.cell? ⟨B,7,none⟩=some v7/\w.cell? ⟨B,8,none⟩=some v8/\w.cell? ⟨B,9,none⟩=some v9/\(w.frozen? ⟨B,0,none⟩=false/\w.frozen? ⟨B,1,none⟩=false/\w.frozen? ⟨B,2,none⟩=false/\w.frozen? ⟨B,3,none⟩=false/\w.frozen? ⟨B,4,none⟩=false/\w.frozen? ⟨B,5,none⟩=false/\w.frozen? ⟨B,6,none⟩=false/\w.frozen? ⟨B,7,none⟩=false/\w.frozen? ⟨B,8,none⟩=false/\w.frozen? ⟨B,9,none⟩=false):=by
 have hc:=fun j=>zzq2 w B j _ _ _ h
 have hf:=fun j=>zzq17 w B j _ _ h
 exact⟨hc 0,hc 1,hc 2,hc 3,hc 4,hc 5,hc 6,hc 7,hc 8,hc 9,hf 0,hf 1,hf 2,hf 3,hf 4,hf 5,hf 6,hf 7,hf 8,hf 9⟩
def InsIn (w:World) (P:Nat->Prop) (cs:List Value) (x:RIns):Prop:=
 ∃so sc co cc go gc,cs= [.int .i64 x.op,.int .i64 x.dst.kind,.int .i64 x.dst.n,.slice so x.src.length sc,.int .i64 x.to,.int .i64 x.n,.int .i64 x.live,.string x.name,.slice co x.cases.length cc,.slice go x.segs.length gc] /\
  SlIn w P 2 zdY so x.src/\SlIn w P 2 zdc co x.cases/\SlIn w P 6 zdZ go x.segs
def Way.ins:Way RIns:=⟨InsIn,fun hs hk hP ⟨so,sc,co,cc,go,gc,e,h1,h2,h3⟩=>⟨so,sc,co,cc,go,gc,e,h1.kept hs hk hP fun _ _ h=>h,h2.kept hs hk hP fun _ _ h=>h,h3.kept hs hk hP fun _ _ h=>h⟩⟩
theorem InsIn.ok {w:World} {P:Nat->Prop} {cs:List Value} {x:RIns} (h:InsIn w P cs x) (ho:InsOk x):InsR w cs x:=by
 obtain⟨so,sc,co,cc,go,gc,e,h1,h2,h3⟩:=h;refine⟨⟨so,sc,co,cc,go,gc,e,h1.at fun _ _ _ h=>h,h2.at fun _ _ _ h=>h,h3.at fun _ _ _ h=>h⟩,ho.op,ho.dst.1,ho.dst.2,?_,ho.tgt,ho.n,ho.live,?_,?_,?_⟩
 ·have:=ho.srcL;unfold maxLen;omega
 ·have:=ho.name;unfold maxLen;omega
 ·have:=ho.casesL;unfold maxLen;omega
 ·have:=ho.segsL;unfold maxLen;omega
structure ISt (w0:World) (r:Nat) (l:List UInt8) (X Y R B h l1 l2:Nat) (op:Int) (d:RArg) (ss:List RArg) (tg n lv:Int) (nm:ByteArray) (cs:List RCase) (gs:List RSeg) (wx:World):Prop where
 rd:RdC r l wx
 gr:w0.grownBy wx (some r)
 x:wx.heap[X]?=some (.cells #[.int .i64 0,.int .i64 0,.int .i64 0,.slice none 0 0,.int .i64 0,.int .i64 0,.int .i64 0,.string ⟨#[]⟩,.slice none 0 0,.slice none 0 0] 36 (0,0))
 rw:wx.heap[R]?=some (.cells #[.int .i64 (h:Nat),.int .i64 (l1:Nat),.int .i64 (l2:Nat)] 131 (0,0))
 hr:r<w0.heap.size
 hX:X=w0.heap.size
 hY:X<Y
 hR:Y<R
 hB:R<B
 hBw:B<=wx.heap.size
 y: ∃so sc co cc go gc,wx.heap[Y]?=some (.cells #[.int .i64 op,.int .i64 d.kind,.int .i64 d.n,.slice so ss.length sc,.int .i64 tg,.int .i64 n,.int .i64 lv,.string nm,.slice co cs.length cc,.slice go gs.length gc] 36 (0,0))/\SlIn wx (B<= ·) 2 zdY so ss/\SlIn wx (B<= ·) 2 zdc co cs/\SlIn wx (B<= ·) 6 zdZ go gs
section
variable {w0:World} {r:Nat} {l:List UInt8} {X Y R B h l1 l2:Nat} {op:Int} {d:RArg} {ss:List RArg} {tg n lv:Int} {nm:ByteArray} {cs:List RCase} {gs:List RSeg} {wx wy:World}
theorem ISt.call (S:ISt w0 r l X Y R B h l1 l2 op d ss tg n lv nm cs gs wx) {l':List UInt8} (hr:RdC r l' wy) (hg:wx.grownBy wy (some r)):ISt w0 r l' X Y R B h l1 l2 op d ss tg n lv nm cs gs wy:=by
 have hX:=S.hX;have hY:=S.hY;have hR:=S.hR;have hB:=S.hB;have hrw:=S.hr;obtain⟨so,sc,co,cc,go,gc,hy,h1,h2,h3⟩:=S.y;have hk: ∀b,B<=b->b<wx.heap.size->wy.heap[b]?=wx.heap[b]?:=fun b hb hl=>hg.block b hl fun e=>by have:=zzf e;omega
 exact⟨hr,zk S.gr hg,zeB hg S.hr (by omega) S.x,zeB hg S.hr (by omega) S.rw,S.hr,S.hX,S.hY,S.hR,S.hB,zzY S.hBw hg.size,
  so,sc,co,cc,go,gc,zeB hg S.hr (by omega) hy,h1.kept hg.size hk (fun b h _=>h) fun _ _ h=>h,h2.kept hg.size hk (fun b h _=>h) fun _ _ h=>h,h3.kept hg.size hk (fun b h _=>h) fun _ _ h=>h⟩
theorem ISt.put (S:ISt w0 r l X Y R B h l1 l2 op d ss tg n lv nm cs gs wx) (ho:OffB Y wx wy) (hbl:Below Y wx wy) {d':RArg} {ss':List RArg} {tg' n' lv':Int} {nm':ByteArray} {cs':List RCase} {gs':List RSeg}
  {so:zzA} {sc:Nat} {co:zzA} {cc:Nat} {go:zzA} {gc:Nat}
  (hy:wy.heap[Y]?=some (.cells #[.int .i64 op,.int .i64 d'.kind,.int .i64 d'.n,.slice so ss'.length sc,.int .i64 tg',.int .i64 n',.int .i64 lv',.string nm',.slice co cs'.length cc,.slice go gs'.length gc] 36 (0,0))) (h1:SlIn wx (B<= ·) 2 zdY so ss') (h2:SlIn wx (B<= ·) 2 zdc co cs') (h3:SlIn wx (B<= ·) 6 zdZ go gs'):ISt w0 r l X Y R B h l1 l2 op d' ss' tg' n' lv' nm' cs' gs' wy:=by
 have hX:=S.hX;have hY:=S.hY;have hR:=S.hR;have hB:=S.hB;have hrw:=S.hr;have hk: ∀b,B<=b->b<wx.heap.size->wy.heap[b]?=wx.heap[b]?:=fun b hb hl=>ho.2 b (by omega)
 exact⟨S.rd.off ho (by omega),zbb S.gr (hbl.mono (by omega)),(ho.2 X (by omega)).trans S.x,(ho.2 R (by omega)).trans S.rw,S.hr,S.hX,S.hY,S.hR,S.hB,zzY S.hBw ho.1,
  so,sc,co,cc,go,gc,hy,h1.kept ho.1 hk (fun b h _=>h) fun _ _ h=>h,h2.kept ho.1 hk (fun b h _=>h) fun _ _ h=>h,h3.kept ho.1 hk (fun b h _=>h) fun _ _ h=>h⟩
theorem ISt.rowc (S:ISt w0 r l X Y R B h l1 l2 op d ss tg n lv nm cs gs wx):wx.cell? ⟨R,0,none⟩=some (.int .i64 (h:Nat)):=zzq2 wx R 0 _ _ _ S.rw
end
def i8 (h:Nat) (op:Int) (d:RArg) (ss:List RArg) (n:Int) (nm:ByteArray) (cs:List RCase) (gs:List RSeg) (tg:Int):Dec RIns:=fun l=>(zdf (zm h 128) zbs 0 l).bind fun v=>some (⟨op,d,ss,tg,n,v.1,nm,cs,gs⟩,v.2)
def i7 (h:Nat) (op:Int) (d:RArg) (ss:List RArg) (n:Int) (nm:ByteArray) (cs:List RCase) (gs:List RSeg):Dec RIns:=fun l=>(zdf (zm h 64) zbs 0 l).bind fun t=>i8 h op d ss n nm cs gs t.1 t.2
def i6 (h:Nat) (op:Int) (d:RArg) (ss:List RArg) (n:Int) (nm:ByteArray) (cs:List RCase):Dec RIns:=fun l=>(zdf (zm h 32) (zV zdg) [] l).bind fun g=>i7 h op d ss n nm cs g.1 g.2
def i5 (h:Nat) (op:Int) (d:RArg) (ss:List RArg) (n:Int) (nm:ByteArray):Dec RIns:=fun l=>(zdf (zm h 16) (zV zcx) [] l).bind fun c=>i6 h op d ss n nm c.1 c.2
def i4 (h:Nat) (op:Int) (d:RArg) (ss:List RArg) (n:Int):Dec RIns:=fun l=>(zdf (zm h 8) zcw ⟨#[]⟩ l).bind fun m=>i5 h op d ss n m.1 m.2
def i3 (h:Nat) (op:Int) (d:RArg) (ss:List RArg):Dec RIns:=fun l=>(zdf (zm h 4) zbs 0 l).bind fun n=>i4 h op d ss n.1 n.2
def i2 (h:Nat) (op:Int) (d:RArg):Dec RIns:=fun l=>(zdf (zm h 2) (zV zb7) [] l).bind fun s=>i3 h op d s.1 s.2
def i1 (h:Nat) (op:Int):Dec RIns:=fun l=>(zdf (zm h 1) zb7 ⟨0,0⟩ l).bind fun d=>i2 h op d.1 d.2
theorem zsr (h:Nat) (op:Int) (l:List UInt8):ziR op h l=i1 h op l:=rfl
theorem zhx {α:Type} (one:Dec α) (z:α) (l:List UInt8):zdf false one z l=some (z,l):=rfl
theorem zea {α:Type} (one:Dec α) (z:α) (l:List UInt8):zdf true one z l=one l:=rfl
def zi5 (r:Nat) (w:World) (d:Option (RIns × List UInt8)) (e:Ending) (w':World):Prop:=
 match d with
 |none=>e=gaveUp/\w.grownBy w' (some r)
 |some (x,l)=>(∃so sc co cc go gc,e= .returned (.agg #[.int .i64 x.op,.int .i64 x.dst.kind,.int .i64 x.dst.n,.slice so x.src.length sc,.int .i64 x.to,.int .i64 x.n,.int .i64 x.live,.string x.name,.slice co x.cases.length cc,.slice go x.segs.length gc])/\Way.ins.on w' (w.heap.size<= ·) (#[.int .i64 x.op,.int .i64 x.dst.kind,.int .i64 x.dst.n,.slice so x.src.length sc,.int .i64 x.to,.int .i64 x.n,.int .i64 x.live,.string x.name,.slice co x.cases.length cc,.slice go x.segs.length gc]).toList x)/\RdC r l w'/\w.grownBy w' (some r)
theorem zfV {l e l':List UInt8} (h:l=e++l') (hne:e≠ []):l'.length<l.length:=by
 have:=List.length_pos_iff.2 hne;rw [h,zzq1];omega
theorem zsk: ∀l x l',zb7 l=some (x,l')->l'.length<l.length:=fun l x l' h=>zfV (zfk h).1 (zfO _)
theorem zrH: ∀l x l',zcx l=some (x,l')->l'.length<l.length:=fun l x l' h=>zfV (zi9 l x l' h).1 (fun e=>zfO _ (List.append_eq_nil_iff.1 e).1)
theorem zsA: ∀l x l',zdg l=some (x,l')->l'.length<l.length:=fun l x l' h=>zfV (zkK l x l' h).1 (fun e=>zfO _ (List.append_eq_nil_iff.1 e).1)
theorem RowsAt.ne {r:Nat} {l:List UInt8} {w:World} (h:RowsAt w) (hr:RdC r l w):0≠r:=by
 intro e;subst e;obtain⟨s,h1,-⟩:=hr;have h2:=(h.2 0 (by omega)).1;have h3:=zzq2 w _ 0 _ _ _ h1;exact absurd (h2.symm.trans h3) (by simp)
theorem RowsAt.grown {r:Nat} {l:List UInt8} {w w':World} (h:RowsAt w) (hr:RdC r l w) (hg:w.grownBy w' (some r)):RowsAt w':=by
 have hne:=h.ne hr;have hb:w'.heap[0]?=w.heap[0]?:=hg.block _ h.1 (fun e=>hne (zzf e))
 refine⟨zzW h.1 hg.size,fun k hk=>?_⟩;obtain⟨a,b,c⟩:=h.2 k hk;exact⟨(World.cell?_of_block hb).trans a,(World.cell?_of_block hb).trans b,(World.cell?_of_block hb).trans c⟩
theorem zro (r:Nat) (l0:List UInt8) (w:World) (hrows:RowsAt w) (h:RdC r l0 w):
  Calls Tryz.prog 61 #[.pointer (some ⟨r,0,none⟩)] w (zi5 r w (zcr l0)):=by
 generalize hQ:zi5 r w (zcr l0)=Q at *;have HQ:=zzH hQ;clear hQ;have hmf: ∀(fn:Fn) (first cap:Array Value) (w:World),(Instr.makeFunc fn first cap).run Tryz.prog w= .ok (.func fn first cap) w:=fun _ _ _ _=>rfl
 have HD:Hid (zcr l0=(zbs l0).bind fun o=>if 1<=o.1/\o.1<=40 then ziR o.1 (zr o.1).1.toNat o.2 else none):=zzH rfl;have S0:=KSt.start h (.cells #[.int .i64 0,.int .i64 0,.int .i64 0,.slice none 0 0,.int .i64 0,.int .i64 0,.int .i64 0,.string ⟨#[]⟩,.slice none 0 0,.slice none 0 0] 36);have hrw:=h.lt;have hRW:=hrows.grown h S0.gr;clear hrows;go_in;go_upto_region 1 with fail;generalize w.alloc _=w0 at *;have H1:=zby r l0 _ S0.rd;rcases h1:vD l0 with _|⟨a,l1⟩
 ·rw [h1]at H1
  rw [show zbs l0=(vD l0).bind fun x=>some ((x.1:Int),x.2)from rfl,h1]at HD;go_wp2_with (go_at_call 53;refine H1.mono ?_;rintro e v1 ⟨rfl,hg1⟩);exact zz206
 rw [h1]at H1;rw [show zbs l0=(vD l0).bind fun x=>some ((x.1:Int),x.2)from rfl,h1]at HD;rw [zzq0,zzq0]at HD;have hrd0:=S0.rd;go_upto_region 2 with(go_at_call 53;refine H1.mono ?_;rintro e v1 ⟨rfl,hr1,hg1⟩;have S1:=S0.call hr1 hg1;have hRW1:=hRW.grown hrd0 hg1;clear S0 H1 hr1 hg1 hRW hrd0);have hba:=(zzR v1.heap.size v1).alloc (zzL _) (.cells #[.int .i64 (a:Int),.int .i64 0,.int .i64 0,.slice none 0 0,.int .i64 0,.int .i64 0,.int .i64 0,.string ⟨#[]⟩,.slice none 0 0,.slice none 0 0] 36);have hy:=zzF v1 (.cells #[.int .i64 (a:Int),.int .i64 0,.int .i64 0,.slice none 0 0,.int .i64 0,.int .i64 0,.int .i64 0,.string ⟨#[]⟩,.slice none 0 0,.slice none 0 0] 36);have hlx:=zc S1.x;have hx:=(hba.block _ hlx).trans S1.x;have hrd:=S1.rd.below hba;have hgr:=zbb S1.gr (hba.mono S1.gr.size);have hRW2:=hRW1.below hba;have hle:=S1.gr.size;clear S1 hba hRW1;generalize v1.alloc _=v2 at *;generalize v1.heap.size=Y at *;have hyl:=zc hy;have cy:v2.cell? ⟨Y,0,none⟩=some (.int .i64 (a:Int)):=zzq2 v2 Y 0 _ _ _ hy;generalize hop:(a:Int)=op at *;by_cases c:1<=op/\op<=40
 case neg=>
  rw [if_neg c]at HD;have hro:=zkL op c v2;go_wp2_with (go_at_call 69;refine hro.mono ?_;rintro e v3 ⟨rfl,hb3⟩);exact⟨rfl,by rw [<-HQ.out,HD.out];exact⟨rfl,zbb (zbb hgr (hb3.mono hgr.size)) ((zzR _ _).alloc (zzY hgr.size hb3.size) _)⟩⟩
 rw [if_pos c]at HD;have hro:=zhT c v2 hRW2;have hrl:= @zgK op;have hh:=hrl.1;rw [zsr]at HD;generalize(zr op).1.toNat=h at *;generalize(zr op).2.1.toNat=k1 at *;generalize(zr op).2.2.toNat=k2 at *;clear hrl hRW2;go_upto_region 3 with(go_at_call 69;refine hro.mono ?_;rintro e v3 ⟨rfl,hb3⟩);have hbr:=(zzR v3.heap.size v3).alloc (zzL _) (.cells #[.int .i64 (h:Nat),.int .i64 (k1:Nat),.int .i64 (k2:Nat)] 131);have hrr:=zzF v3 (.cells #[.int .i64 (h:Nat),.int .i64 (k1:Nat),.int .i64 (k2:Nat)] 131);have hsz:(v3.alloc (.cells #[.int .i64 (h:Nat),.int .i64 (k1:Nat),.int .i64 (k2:Nat)] 131)).heap.size=v3.heap.size+1:=by simp
 have hbb:=hb3.trans (hbr.mono hb3.size)
 have S:ISt w r l1 w.heap.size Y v3.heap.size (v3.heap.size+1) h k1 k2 op ⟨0,0⟩ [] 0 0 0 ⟨#[]⟩ [] [] (v3.alloc (.cells #[.int .i64 (h:Nat),.int .i64 (k1:Nat),.int .i64 (k2:Nat)] 131)):=
  ⟨hrd.below hbb,zbb hgr (hbb.mono hgr.size),(hbb.block _ (zc hx)).trans hx,hrr,hrw,rfl,hlx,zzW hyl hb3.size,Nat.lt_succ_self _,by rw [hsz];exact zzL _,none,0,none,0,none,0,(hbb.block _ hyl).trans hy,.inl rfl,.inl rfl,.inl rfl⟩
 clear hbr hrr hsz hbb hro hb3 hx hrd hgr hy hyl cy hlx hle hrw;generalize v3.alloc _=v4 at *;generalize v3.heap.size+1=B at *;generalize v3.heap.size=R at *;have HS:=zzH S;clear S;obtain⟨a1,e1⟩:=zcd h 1 hh (by decide);obtain⟨q1,hq1⟩: ∃q,zm h 1=q:=⟨_,rfl⟩;obtain⟨y1,hy1⟩: ∃y,h&&&1=y:=⟨_,rfl⟩;rw [hy1]at a1 e1;rw [hq1]at e1;have HA1:Hid (bits .and .i64 (h:Int) 1=(y1:Int)):=zzH a1;have HE1:=zzH e1;have HQ1:=zzH hq1;clear a1 e1 hq1 hy1;obtain⟨a2,e2⟩:=zcd h 2 hh (by decide);obtain⟨q2,hq2⟩: ∃q,zm h 2=q:=⟨_,rfl⟩;obtain⟨y2,hy2⟩: ∃y,h&&&2=y:=⟨_,rfl⟩;rw [hy2]at a2 e2;rw [hq2]at e2;have HA2:Hid (bits .and .i64 (h:Int) 2=(y2:Int)):=zzH a2;have HE2:=zzH e2;have HQ2:=zzH hq2;clear a2 e2 hq2 hy2;obtain⟨a4,e4⟩:=zcd h 4 hh (by decide);obtain⟨q4,hq4⟩: ∃q,zm h 4=q:=⟨_,rfl⟩;obtain⟨y4,hy4⟩: ∃y,h&&&4=y:=⟨_,rfl⟩;rw [hy4]at a4 e4;rw [hq4]at e4;have HA4:Hid (bits .and .i64 (h:Int) 4=(y4:Int)):=zzH a4;have HE4:=zzH e4;have HQ4:=zzH hq4;clear a4 e4 hq4 hy4;obtain⟨a8,e8⟩:=zcd h 8 hh (by decide);obtain⟨q8,hq8⟩: ∃q,zm h 8=q:=⟨_,rfl⟩;obtain⟨y8,hy8⟩: ∃y,h&&&8=y:=⟨_,rfl⟩;rw [hy8]at a8 e8;rw [hq8]at e8;have HA8:Hid (bits .and .i64 (h:Int) 8=(y8:Int)):=zzH a8;have HE8:=zzH e8;have HQ8:=zzH hq8;clear a8 e8 hq8 hy8;obtain⟨a16,e16⟩:=zcd h 16 hh (by decide);obtain⟨q16,hq16⟩: ∃q,zm h 16=q:=⟨_,rfl⟩;obtain⟨y16,hy16⟩: ∃y,h&&&16=y:=⟨_,rfl⟩;rw [hy16]at a16 e16;rw [hq16]at e16;have HA16:Hid (bits .and .i64 (h:Int) 16=(y16:Int)):=zzH a16;have HE16:=zzH e16;have HQ16:=zzH hq16;clear a16 e16 hq16 hy16;obtain⟨a32,e32⟩:=zcd h 32 hh (by decide);obtain⟨q32,hq32⟩: ∃q,zm h 32=q:=⟨_,rfl⟩;obtain⟨y32,hy32⟩: ∃y,h&&&32=y:=⟨_,rfl⟩;rw [hy32]at a32 e32;rw [hq32]at e32;have HA32:Hid (bits .and .i64 (h:Int) 32=(y32:Int)):=zzH a32;have HE32:=zzH e32;have HQ32:=zzH hq32;clear a32 e32 hq32 hy32;obtain⟨a64,e64⟩:=zcd h 64 hh (by decide);obtain⟨q64,hq64⟩: ∃q,zm h 64=q:=⟨_,rfl⟩;obtain⟨y64,hy64⟩: ∃y,h&&&64=y:=⟨_,rfl⟩;rw [hy64]at a64 e64;rw [hq64]at e64;have HA64:Hid (bits .and .i64 (h:Int) 64=(y64:Int)):=zzH a64;have HE64:=zzH e64;have HQ64:=zzH hq64;clear a64 e64 hq64 hy64;obtain⟨a128,e128⟩:=zcd h 128 hh (by decide);obtain⟨q128,hq128⟩: ∃q,zm h 128=q:=⟨_,rfl⟩;obtain⟨y128,hy128⟩: ∃y,h&&&128=y:=⟨_,rfl⟩;rw [hy128]at a128 e128;rw [hq128]at e128;have HA128:Hid (bits .and .i64 (h:Int) 128=(y128:Int)):=zzH a128;have HE128:=zzH e128;have HQ128:=zzH hq128;clear a128 e128 hq128 hy128;have hcR:=HS.out.rowc;have hac:=HA1.out;have hec:=HE1.out;go_upto_if 22 with fail;clear hcR hac hec;go_cut [] (fun wx=> ∃(d:RArg) (l2:List UInt8),Hid (zcr l0=i2 h op d l2)/\Hid (ISt w r l2 w.heap.size Y R B h k1 k2 op d ([]) 0 0 0 (⟨#[]⟩) ([]) ([]) wx))
 case first=>
  unfold i1 at HD;rw [HQ1.out]at HD
  cases q1 with
  |false=>
   rw [zhx,zzq0]at HD;go_wp2_with fail;go_meet
   case rel=>exact⟨⟨0,0⟩,_,HD,HS⟩
  |true=>
   rw [zea]at HD;have S:=HS.out;have H:=zgS r l1 _ S.rd;rcases h2:zb7 l1 with _|⟨d2,l3⟩
   ·rw [h2]at H HD
    go_wp2_with (go_at_call 93;refine H.mono ?_;rintro e v5 ⟨rfl,hg5⟩);exact zz127
   rw [h2]at H HD;rw [zzq0]at HD;go_wp2_with (go_at_call 93;refine H.mono ?_;rintro e v5 ⟨rfl,hr5,hg5⟩;have S2:=S.call hr5 hg5;clear S;obtain⟨so,sc,co,cc,go,gc,hy,s1,s2,s3⟩:=S2.y;obtain⟨q0,q1,q2,q3,q4,q5,q6,q7,q8,q9,z0,z1,z2,z3,z4,z5,z6,z7,z8,z9⟩:=zdG hy);clear q0 q1 q2 q3 q4 q5 q6 q7 q8 q9 z0 z1 z2 z3 z4 z5 z6 z7 z8 z9;go_meet
   case rel=>exact⟨d2,l3,HD,zzH (S2.put ((OffB.set Y _ 1 _).trans (OffB.set Y _ 2 _)) (((zzR _ _).setCell (p:=⟨Y,1,none⟩) (zzL _) _).setCell (p:=⟨Y,2,none⟩) (zzL _) _) (zzS _ _ 2 _ _ _ (zzS _ _ 1 _ _ _ hy)) s1 s2 s3)⟩
 case rest=>
  clear HD HS;obtain⟨d,l,HD,HS⟩:=hcut;have hcR:=HS.out.rowc;have hac:=HA2.out;have hec:=HE2.out;go_upto_if 29 with fail;clear hcR hac hec;go_cut [] (fun wx=> ∃(ss:List RArg) (l2:List UInt8),Hid (zcr l0=i3 h op d ss l2)/\Hid (ISt w r l2 w.heap.size Y R B h k1 k2 op d ss 0 0 0 (⟨#[]⟩) ([]) ([]) wx))
  case first=>
   unfold i2 at HD;rw [HQ2.out]at HD
   cases q2 with
   |false=>
    exact zz125
   |true=>
    rw [zea]at HD;have S:=HS.out;have H:=zkY r l _ (fun l wx h=>zoK r l wx h) zsk S.rd;rcases h2:zV zb7 l with _|⟨ss2,l3⟩
    ·rw [h2]at H HD
     go_wp2_with (go_at_call 94;refine H.mono ?_;rintro e v5 ⟨rfl,hg5⟩);exact zz127
    rw [h2]at H HD;rw [zzq0]at HD;have hBw:=S.hBw;go_wp2_with (go_at_call 94;refine H.mono ?_;rintro e v5 ⟨⟨so2,c2,rfl,hsl⟩,hr5,hg5⟩;have S2:=S.call hr5 hg5;clear S;obtain⟨so,sc,co,cc,go,gc,hy,s1,s2,s3⟩:=S2.y;obtain⟨q0,q1,q2,q3,q4,q5,q6,q7,q8,q9,z0,z1,z2,z3,z4,z5,z6,z7,z8,z9⟩:=zdG hy);clear q0 q1 q2 q3 q4 q5 q6 q7 q8 q9 z0 z1 z2 z3 z4 z5 z6 z7 z8 z9;go_meet
    case rel=>exact⟨ss2,l3,HD,zzH (S2.put (OffB.set Y _ 3 _) ((zzR _ _).setCell (p:=⟨Y,3,none⟩) (zzL _) _) (zzS _ _ 3 _ _ _ hy) (hsl.kept (zzL _) (fun _ _ _=>rfl) (fun b hb _=>zzY hBw hb) fun _ _ h=>h) s2 s3)⟩
  case rest=>
   clear HD HS;obtain⟨ss,l,HD,HS⟩:=hcut;have hcR:=HS.out.rowc;have hac:=HA4.out;have hec:=HE4.out;go_upto_if 38 with fail;clear hcR hac hec;go_cut [] (fun wx=> ∃(n:Int) (l2:List UInt8),Hid (zcr l0=i4 h op d ss n l2)/\Hid (ISt w r l2 w.heap.size Y R B h k1 k2 op d ss 0 n 0 (⟨#[]⟩) ([]) ([]) wx))
   case first=>
    unfold i3 at HD;rw [HQ4.out]at HD
    cases q4 with
    |false=>
     exact zz126
    |true=>
     rw [zea]at HD;have S:=HS.out;have H:=zby r l _ S.rd;rcases h2:vD l with _|⟨n2,l3⟩
     ·exact zz124
     rw [h2]at H;rw [show zbs l=(vD l).bind fun x=>some ((x.1:Int),x.2)from rfl,h2]at HD;rw [zzq0,zzq0]at HD;go_wp2_with (go_at_call 53;refine H.mono ?_;rintro e v5 ⟨rfl,hr5,hg5⟩;have S2:=S.call hr5 hg5;clear S;obtain⟨so,sc,co,cc,go,gc,hy,s1,s2,s3⟩:=S2.y;obtain⟨q0,q1,q2,q3,q4,q5,q6,q7,q8,q9,z0,z1,z2,z3,z4,z5,z6,z7,z8,z9⟩:=zdG hy);clear q0 q1 q2 q3 q4 q5 q6 q7 q8 q9 z0 z1 z2 z3 z4 z5 z6 z7 z8 z9;go_meet
     case rel=>exact⟨((n2:Nat):Int),l3,HD,zzH (S2.put (OffB.set Y _ 5 _) ((zzR _ _).setCell (p:=⟨Y,5,none⟩) (zzL _) _) (zzS _ _ 5 _ _ _ hy) s1 s2 s3)⟩
   case rest=>
    clear HD HS;obtain⟨n,l,HD,HS⟩:=hcut;have hcR:=HS.out.rowc;have hac:=HA8.out;have hec:=HE8.out;go_upto_if 45 with fail;clear hcR hac hec;go_cut [] (fun wx=> ∃(nm:ByteArray) (l2:List UInt8),Hid (zcr l0=i5 h op d ss n nm l2)/\Hid (ISt w r l2 w.heap.size Y R B h k1 k2 op d ss 0 n 0 nm ([]) ([]) wx))
    case first=>
     unfold i4 at HD;rw [HQ8.out]at HD
     cases q8 with
     |false=>
      rw [zhx,zzq0]at HD;go_wp2_with fail;go_meet
      case rel=>exact⟨⟨#[]⟩,_,HD,HS⟩
     |true=>
      rw [zea]at HD;have S:=HS.out;have H:=zf4 r l _ S.rd;rcases h2:zcw l with _|⟨nm2,l3⟩
      ·rw [h2]at H HD
       go_wp2_with (go_at_call 52;refine H.mono ?_;rintro e v5 ⟨rfl,hg5⟩);exact zz127
      rw [h2]at H HD;rw [zzq0]at HD;go_wp2_with (go_at_call 52;refine H.mono ?_;rintro e v5 ⟨rfl,hr5,hg5⟩;have S2:=S.call hr5 hg5;clear S;obtain⟨so,sc,co,cc,go,gc,hy,s1,s2,s3⟩:=S2.y;obtain⟨q0,q1,q2,q3,q4,q5,q6,q7,q8,q9,z0,z1,z2,z3,z4,z5,z6,z7,z8,z9⟩:=zdG hy);clear q0 q1 q2 q3 q4 q5 q6 q7 q8 q9 z0 z1 z2 z3 z4 z5 z6 z7 z8 z9;go_meet
      case rel=>exact⟨nm2,l3,HD,zzH (S2.put (OffB.set Y _ 7 _) ((zzR _ _).setCell (p:=⟨Y,7,none⟩) (zzL _) _) (zzS _ _ 7 _ _ _ hy) s1 s2 s3)⟩
    case rest=>
     clear HD HS;obtain⟨nm,l,HD,HS⟩:=hcut;have hcR:=HS.out.rowc;have hac:=HA16.out;have hec:=HE16.out;go_upto_if 52 with fail;clear hcR hac hec;go_cut [] (fun wx=> ∃(cs:List RCase) (l2:List UInt8),Hid (zcr l0=i6 h op d ss n nm cs l2)/\Hid (ISt w r l2 w.heap.size Y R B h k1 k2 op d ss 0 n 0 nm cs ([]) wx))
     case first=>
      unfold i5 at HD;rw [HQ16.out]at HD
      cases q16 with
      |false=>
       exact zz125
      |true=>
       rw [zea]at HD;have S:=HS.out;have H:=zjY r l _ (fun l wx h=>zpd r l wx h) zrH S.rd;rcases h2:zV zcx l with _|⟨cs2,l3⟩
       ·rw [h2]at H HD
        go_wp2_with (go_at_call 95;refine H.mono ?_;rintro e v5 ⟨rfl,hg5⟩);exact zz127
       rw [h2]at H HD;rw [zzq0]at HD;have hBw:=S.hBw;go_wp2_with (go_at_call 95;refine H.mono ?_;rintro e v5 ⟨⟨so2,c2,rfl,hsl⟩,hr5,hg5⟩;have S2:=S.call hr5 hg5;clear S;obtain⟨so,sc,co,cc,go,gc,hy,s1,s2,s3⟩:=S2.y;obtain⟨q0,q1,q2,q3,q4,q5,q6,q7,q8,q9,z0,z1,z2,z3,z4,z5,z6,z7,z8,z9⟩:=zdG hy);clear q0 q1 q2 q3 q4 q5 q6 q7 q8 q9 z0 z1 z2 z3 z4 z5 z6 z7 z8 z9;go_meet
       case rel=>exact⟨cs2,l3,HD,zzH (S2.put (OffB.set Y _ 8 _) ((zzR _ _).setCell (p:=⟨Y,8,none⟩) (zzL _) _) (zzS _ _ 8 _ _ _ hy) s1 (hsl.kept (zzL _) (fun _ _ _=>rfl) (fun b hb _=>zzY hBw hb) fun _ _ h=>h) s3)⟩
     case rest=>
      clear HD HS;obtain⟨cs,l,HD,HS⟩:=hcut;have hcR:=HS.out.rowc;have hac:=HA32.out;have hec:=HE32.out;go_upto_if 61 with fail;clear hcR hac hec;go_cut [] (fun wx=> ∃(gs:List RSeg) (l2:List UInt8),Hid (zcr l0=i7 h op d ss n nm cs gs l2)/\Hid (ISt w r l2 w.heap.size Y R B h k1 k2 op d ss 0 n 0 nm cs gs wx))
      case first=>
       unfold i6 at HD;rw [HQ32.out]at HD
       cases q32 with
       |false=>
        exact zz125
       |true=>
        rw [zea]at HD;have S:=HS.out;have H:=zk4 r l _ (fun l wx h=>zqA r l wx h) zsA S.rd;rcases h2:zV zdg l with _|⟨gs2,l3⟩
        ·rw [h2]at H HD
         go_wp2_with (go_at_call 97;refine H.mono ?_;rintro e v5 ⟨rfl,hg5⟩);exact zz127
        rw [h2]at H HD;rw [zzq0]at HD;have hBw:=S.hBw;go_wp2_with (go_at_call 97;refine H.mono ?_;rintro e v5 ⟨⟨so2,c2,rfl,hsl⟩,hr5,hg5⟩;have S2:=S.call hr5 hg5;clear S;obtain⟨so,sc,co,cc,go,gc,hy,s1,s2,s3⟩:=S2.y;obtain⟨q0,q1,q2,q3,q4,q5,q6,q7,q8,q9,z0,z1,z2,z3,z4,z5,z6,z7,z8,z9⟩:=zdG hy);clear q0 q1 q2 q3 q4 q5 q6 q7 q8 q9 z0 z1 z2 z3 z4 z5 z6 z7 z8 z9;go_meet
        case rel=>exact⟨gs2,l3,HD,zzH (S2.put (OffB.set Y _ 9 _) ((zzR _ _).setCell (p:=⟨Y,9,none⟩) (zzL _) _) (zzS _ _ 9 _ _ _ hy) s1 s2 (hsl.kept (zzL _) (fun _ _ _=>rfl) (fun b hb _=>zzY hBw hb) fun _ _ h=>h))⟩
      case rest=>
       clear HD HS;obtain⟨gs,l,HD,HS⟩:=hcut;have hcR:=HS.out.rowc;have hac:=HA64.out;have hec:=HE64.out;go_upto_if 70 with fail;clear hcR hac hec;go_cut [] (fun wx=> ∃(tg:Int) (l2:List UInt8),Hid (zcr l0=i8 h op d ss n nm cs gs tg l2)/\Hid (ISt w r l2 w.heap.size Y R B h k1 k2 op d ss tg n 0 nm cs gs wx))
       case first=>
        unfold i7 at HD;rw [HQ64.out]at HD
        cases q64 with
        |false=>
         exact zz126
        |true=>
         rw [zea]at HD;have S:=HS.out;have H:=zby r l _ S.rd;rcases h2:vD l with _|⟨tg2,l3⟩
         ·exact zz124
         rw [h2]at H;rw [show zbs l=(vD l).bind fun x=>some ((x.1:Int),x.2)from rfl,h2]at HD;rw [zzq0,zzq0]at HD;go_wp2_with (go_at_call 53;refine H.mono ?_;rintro e v5 ⟨rfl,hr5,hg5⟩;have S2:=S.call hr5 hg5;clear S;obtain⟨so,sc,co,cc,go,gc,hy,s1,s2,s3⟩:=S2.y;obtain⟨q0,q1,q2,q3,q4,q5,q6,q7,q8,q9,z0,z1,z2,z3,z4,z5,z6,z7,z8,z9⟩:=zdG hy);clear q0 q1 q2 q3 q4 q5 q6 q7 q8 q9 z0 z1 z2 z3 z4 z5 z6 z7 z8 z9;go_meet
         case rel=>exact⟨((tg2:Nat):Int),l3,HD,zzH (S2.put (OffB.set Y _ 4 _) ((zzR _ _).setCell (p:=⟨Y,4,none⟩) (zzL _) _) (zzS _ _ 4 _ _ _ hy) s1 s2 s3)⟩
       case rest=>
        clear HD HS;obtain⟨tg,l,HD,HS⟩:=hcut;have hcR:=HS.out.rowc;have hac:=HA128.out;have hec:=HE128.out;go_upto_if 77 with fail;clear hcR hac hec;go_cut [] (fun wx=> ∃(lv:Int) (l2:List UInt8),Hid (zcr l0=some (⟨op,d,ss,tg,n,lv,nm,cs,gs⟩,l2))/\Hid (ISt w r l2 w.heap.size Y R B h k1 k2 op d ss tg n lv nm cs gs wx))
        case first=>
         unfold i8 at HD;rw [HQ128.out]at HD
         cases q128 with
         |false=>
          exact zz126
         |true=>
          rw [zea]at HD;have S:=HS.out;have H:=zby r l _ S.rd;rcases h2:vD l with _|⟨lv2,l3⟩
          ·exact zz124
          rw [h2]at H;rw [show zbs l=(vD l).bind fun x=>some ((x.1:Int),x.2)from rfl,h2]at HD;rw [zzq0,zzq0]at HD;go_wp2_with (go_at_call 53;refine H.mono ?_;rintro e v5 ⟨rfl,hr5,hg5⟩;have S2:=S.call hr5 hg5;clear S;obtain⟨so,sc,co,cc,go,gc,hy,s1,s2,s3⟩:=S2.y;obtain⟨q0,q1,q2,q3,q4,q5,q6,q7,q8,q9,z0,z1,z2,z3,z4,z5,z6,z7,z8,z9⟩:=zdG hy);clear q0 q1 q2 q3 q4 q5 q6 q7 q8 q9 z0 z1 z2 z3 z4 z5 z6 z7 z8 z9;go_meet
          case rel=>exact⟨((lv2:Nat):Int),l3,HD,zzH (S2.put (OffB.set Y _ 6 _) ((zzR _ _).setCell (p:=⟨Y,6,none⟩) (zzL _) _) (zzS _ _ 6 _ _ _ hy) s1 s2 s3)⟩
        case rest=>
         clear HD HS;obtain⟨lv,l,HD,HS⟩:=hcut;have S:=HS.out;clear HS;obtain⟨so,sc,co,cc,go,gc,hy,s1,s2,s3⟩:=S.y;have hx:=S.x;have hXB:w.heap.size<B:=by have:=S.hY;have:=S.hR;have:=S.hB;omega
         have HC:=zzH (And.intro s1 (And.intro s2 (And.intro s3 hXB)));have HSS:=zzH S;clear s1 s2 s3 hXB S hmf hop c hh;clear HA1 HA2 HA4 HA8 HA16 HA32 HA64 HA128 HE1 HE2 HE4 HE8 HE16 HE32 HE64 HE128 HQ1 HQ2 HQ4 HQ8 HQ16 HQ32 HQ64 HQ128;have HY:=zzH hy;have HX:=zzH hx;clear hy hx;go_upto_region 21 with fail;rename_i K hK;refine wp_region_list ?_;refine wpList_load_row rfl 36 (.tmp 3) rfl Y rfl 36 _ _ _ HY.out Tryz.underlying36 rfl (by kernel_rfl) ?_;refine wpList_store_row rfl 36 (.tmp 2) (.tmp 81) rfl w.heap.size #[.int .i64 op,.int .i64 d.kind,.int .i64 d.n,.slice so ss.length sc,.int .i64 tg,.int .i64 n,.int .i64 lv,.string nm,.slice co cs.length cc,.slice go gs.length gc] rfl rfl 36 _ HX.out (by kernel_rfl) rfl (by simp [Value.oneCell']) ?_;refine wpList_nil ?_;refine hK _ _ ?_;refine wp_ret ?_;have hx:=HX.out;have S:=HSS.out;obtain⟨s1,s2,s3,hXB⟩:=HC.out;refine zzj (results_cell_row rfl _ _ w.heap.size _ _ _ _ rfl (setRow_heap _ _ _ _ _ _ hx) Tryz.underlying36 rfl (by kernel_rfl)) rfl ?_;rw [<-HQ.out,HD.out];have ho:OffB w.heap.size wc (wc.setRow w.heap.size #[.int .i64 op,.int .i64 d.kind,.int .i64 d.n,.slice so ss.length sc,.int .i64 tg,.int .i64 n,.int .i64 lv,.string nm,.slice co cs.length cc,.slice go gs.length gc]):=⟨by simp,fun b hb=>setRow_other _ _ _ _ hb⟩;have hk: ∀b,B<=b->b<wc.heap.size->(wc.setRow w.heap.size #[.int .i64 op,.int .i64 d.kind,.int .i64 d.n,.slice so ss.length sc,.int .i64 tg,.int .i64 n,.int .i64 lv,.string nm,.slice co cs.length cc,.slice go gs.length gc]).heap[b]?=wc.heap[b]?:=fun b hb _=>ho.2 b (by omega)
         have hP: ∀b,B<=b->b<wc.heap.size->w.heap.size<=b:=fun b hb _=>by omega
         have hrne:r≠w.heap.size:=by have:=S.hr;omega
         exact⟨⟨so,sc,co,cc,go,gc,rfl,so,sc,co,cc,go,gc,rfl,s1.kept ho.1 hk hP fun _ _ h=>h,s2.kept ho.1 hk hP fun _ _ h=>h,s3.kept ho.1 hk hP fun _ _ h=>h⟩,S.rd.off ho hrne,zbb S.gr (below_setRow (zzR _ _) (zzL _) _)⟩
theorem zq4:(Tryz.prog.info? 36).map (fun i=>(i.zero,i.size,i.bytes))=some (some (.agg #[.int .i64 0,.int .i64 0,.int .i64 0,.slice none 0 0,.int .i64 0,.int .i64 0,.int .i64 0,.string ⟨#[]⟩,.slice none 0 0,.slice none 0 0]),10,136):=by kernel_rfl
theorem zkr (r:Nat) (l0:List UInt8) (w:World) (hrows:RowsAt w) (HO: ∀(l:List UInt8) (wx:World),RowsAt wx->RdC r l wx->Calls Tryz.prog 61 #[.pointer (some ⟨r,0,none⟩)] wx (zi5 r wx (zcr l)))
  (HL: ∀l x l',zcr l=some (x,l')->l'.length<l.length) (h:RdC r l0 w):
  Calls Tryz.prog 60 #[.pointer (some ⟨r,0,none⟩),.func (.func 61) #[.pointer (some ⟨r,0,none⟩)] #[]] w (zd2 r w 10 Way.ins (zV zcr l0)):=by
 generalize hQ:zd2 r w 10 Way.ins (zV zcr l0)=Q at *;have HQ:=zzH hQ;clear hQ;have HOO:=zzH HO;have HLL:=zzH HL;clear HO HL;have HN:=zby r l0 w h;have HD:Hid (zV zcr l0=(vD l0).bind fun x=>zb2 zcr x.1 x.2):=zzH rfl;have hrw:=h.lt;have hlen0:=h.len;go_in;rcases h1:vD l0 with _|⟨n,l1⟩
 ·exact zz117
 rw [h1]at HN HD;rw [zzq0]at HD;have hn:=zcF h1;go_wp2_with (go_at_call 53;refine HN.mono ?_;rintro e w1 ⟨rfl,hr1,hg1⟩);go_loopw [6,5] (fun nv lv wr=> ∃(k:Nat) (l:List UInt8) (ts:List RIns),nv= .int .i64 k/\k+ts.length=n/\ts.length+l.length<=l0.length/\Hid (zV zcr l0=(zb2 zcr k l).bind fun y=>some (ts++y.1,y.2))/\RdC r l wr/\AccG 36 10 Way.ins w.heap.size lv ts wr/\w.grownBy wr (some r)) (fun nv _ _=>(intOf nv).toNat)
 case atStart=>exact⟨n,l1,[],rfl,rfl,by simp;omega,zzH (by rw [HD.out];cases zb2 zcr n l1<;>rfl),hr1,AccG.nil _,hg1⟩
 case round=>
  obtain⟨k,l,ts,rfl,hk,hll,HI,hrd,hacc,hg⟩:=hrel
  cases k with
  |zero=>
   exact zz118
  |succ k=>
   obtain⟨ao,cap0,rfl,-⟩:=hacc.sl;have hpos:((k+1:Nat):Int)>0:=by omega
   have HT:=HOO.out l wr (hrows.grown h hg) hrd;rcases h2:zcr l with _|⟨x,l2⟩
   ·rw [h2]at HT
    go_wp2_with (go_at_call 61;refine HT.mono ?_;rintro e w2 ⟨rfl,hg2⟩);exact zz120
   rw [h2]at HT;have hlt:=HLL.out l x l2 h2;obtain⟨i0,hi,hz0,hz1,hz2⟩:=info_parts zq4
   go_wp2_with (first
    |(go_at_call 61;refine HT.mono ?_;rintro e w2 ⟨⟨sx,sxc,cx,cxc,gx,gxc,rfl,hval⟩,hr2,hg2⟩;obtain⟨xs,ho,hR⟩:=((hacc.grown hg2 hrw).below ((zzR _ _).alloc (zzL _) (.cells #[.int .i64 x.op,.int .i64 x.dst.kind,.int .i64 x.dst.n,.slice sx x.src.length sxc,.int .i64 x.to,.int .i64 x.n,.int .i64 x.live,.string x.name,.slice cx x.cases.length cxc,.slice gx x.segs.length gxc] 36))).own)
    |(at_builtin;refine wpList_append_lies _ rfl (.tmp 13) (.tmp 16) 25 rfl w.heap.size 36 i0 _ 10 136 Tryz.underlying25 hi hz0 hz1 hz2 rfl (by decide) _ ts.length xs rfl ho ⟨w2.heap.size,0,none⟩ 1 1 (#[.int .i64 x.op,.int .i64 x.dst.kind,.int .i64 x.dst.n,.slice sx x.src.length sxc,.int .i64 x.to,.int .i64 x.n,.int .i64 x.live,.string x.name,.slice cx x.cases.length cxc,.slice gx x.segs.length gxc]).toList rfl rfl (World.news_of_block (zzF _ _)) (by simp [Value.oneCell']) (by decide) (by unfold maxLen;omega) (by omega) (by have:=hg.size;have:=hg2.size;simp;omega) _ rfl ?_;intro g cap w3 ho3 hg3 hat hlt3))
   have ho0: ∀k,(Value.slice ao ts.length cap0).ownBlock=some k->w.heap.size<=k/\k<wr.heap.size:=by
    exact zz95
   have hb1:=(zzR w2.heap.size w2).alloc (zzL _) (.cells #[.int .i64 x.op,.int .i64 x.dst.kind,.int .i64 x.dst.n,.slice sx x.src.length sxc,.int .i64 x.to,.int .i64 x.n,.int .i64 x.live,.string x.name,.slice cx x.cases.length cxc,.slice gx x.segs.length gxc] 36)
   have hacc2:AccG 36 10 Way.ins w.heap.size (.slice (some ⟨g,0,none⟩) (ts.length+1) cap) (ts++ [x]) w3:=
    AccG.app (fun k e=>(ho0 k e).2) hR (Way.below _ hb1 hval) rfl hg.size hg3 (fun k e=>by
     have e:g=k:=zzf e;subst e;exact hat.imp id fun h=>Nat.le_of_eq h.symm) ho3
   have hr3:RdC r l2 w3:=by
    exact zz119
   have hgw:w.grownBy w3 (some r):=zc3 (zbb (zk hg hg2) (hb1.mono (zzY hg.size hg2.size))) hg3 (fun k e=>(ho0 k e).1);go_wp2_with fail;go_roundw
   case rel=>exact⟨k,l2,ts++ [x],by go_num,by rw [zzq1];simp;omega,by rw [zzq1];simp;omega,zzH (by
    rw [HI.out,zdF,h2,zzq0]
    cases zb2 zcr k l2 with
    |none=>rfl
    |some y=>simp only [zzX5]),hr3,hacc2,hgw⟩
   case measure=>simp [intOf]
theorem zsi: ∀l x l',zcr l=some (x,l')->l'.length<l.length:=fun l x l' h=>zfV (zkh l x l' h).1 (fun e=>zfO _ (List.append_eq_nil_iff.1 e).1)
theorem zsQ: ∀l x l',zdh l=some (x,l')->l'.length<l.length:=fun l x l' h=>zfV (zkz l x l' h).1 (zh4 _)
theorem zq6: ∀l x l',zcD l=some (x,l')->l'.length<l.length:=fun l x l' h=>zfV (zjh l x l' h).1 (fun e=>zh4 _ (List.append_eq_nil_iff.1 e).1)
theorem zuj: ∀l x l',fnD l=some (x,l')->l'.length<l.length:=fun l x l' h=>zfV (zl7 l x l' h).1 (fun e=>zfO _ (List.append_eq_nil_iff.1 e).1)
def zf5:Array Value:=#[.string ⟨#[]⟩,.int .i64 0,.slice none 0 0,.slice none 0 0,.slice none 0 0,.slice none 0 0]
structure Out2 (X:Nat) (w:World) (row:Array Value) (e:Value):Prop where
 x:w.heap[X]?=some (.cells row 27 (0,0))
 e:w.heap[X+1]?=some (.cells #[e] 37 (0,0))
theorem zdt {w:World} {B:Nat} {v0 v1 v2 v3 v4 v5:Value} (h:w.heap[B]?=some (.cells #[v0,v1,v2,v3,v4,v5] 27 (0,0))):
  w.cell? ⟨B,0,none⟩=some v0/\w.cell? ⟨B,1,none⟩=some v1/\w.cell? ⟨B,2,none⟩=some v2/\w.cell? ⟨B,3,none⟩=some v3/\w.cell? ⟨B,4,none⟩=some v4/\w.cell? ⟨B,5,none⟩=some v5/\(w.frozen? ⟨B,0,none⟩=false/\w.frozen? ⟨B,1,none⟩=false/\w.frozen? ⟨B,2,none⟩=false/\w.frozen? ⟨B,3,none⟩=false/\w.frozen? ⟨B,4,none⟩=false/\w.frozen? ⟨B,5,none⟩=false):=by
 have hc:=fun j=>zzq2 w B j _ _ _ h
 have hf:=fun j=>zzq17 w B j _ _ h
 exact⟨hc 0,hc 1,hc 2,hc 3,hc 4,hc 5,hf 0,hf 1,hf 2,hf 3,hf 4,hf 5⟩
theorem ztL {w:World} {B:Nat} {a0 a1 a2 a3 a4 a5:Value} (v0 v1 v2 v3 v4 v5:Value) (h:w.heap[B]?=some (.cells #[a0,a1,a2,a3,a4,a5] 27 (0,0))):
  ((((((w.setCell ⟨B,0,none⟩ v0).setCell ⟨B,1,none⟩ v1).setCell ⟨B,2,none⟩ v2).setCell ⟨B,3,none⟩ v3).setCell ⟨B,4,none⟩ v4).setCell ⟨B,5,none⟩ v5).heap[B]?=some (.cells #[v0,v1,v2,v3,v4,v5] 27 (0,0)):=by
 have h0:(w.setCell ⟨B,0,none⟩ v0).heap[B]?=some (.cells #[v0,a1,a2,a3,a4,a5] 27 (0,0)):=zzS _ _ 0 _ _ v0 h
 have h1:((w.setCell ⟨B,0,none⟩ v0).setCell ⟨B,1,none⟩ v1).heap[B]?=some (.cells #[v0,v1,a2,a3,a4,a5] 27 (0,0)):=zzS _ _ 1 _ _ v1 h0
 have h2:(((w.setCell ⟨B,0,none⟩ v0).setCell ⟨B,1,none⟩ v1).setCell ⟨B,2,none⟩ v2).heap[B]?=some (.cells #[v0,v1,v2,a3,a4,a5] 27 (0,0)):=zzS _ _ 2 _ _ v2 h1
 have h3:((((w.setCell ⟨B,0,none⟩ v0).setCell ⟨B,1,none⟩ v1).setCell ⟨B,2,none⟩ v2).setCell ⟨B,3,none⟩ v3).heap[B]?=some (.cells #[v0,v1,v2,v3,a4,a5] 27 (0,0)):=zzS _ _ 3 _ _ v3 h2
 have h4:(((((w.setCell ⟨B,0,none⟩ v0).setCell ⟨B,1,none⟩ v1).setCell ⟨B,2,none⟩ v2).setCell ⟨B,3,none⟩ v3).setCell ⟨B,4,none⟩ v4).heap[B]?=some (.cells #[v0,v1,v2,v3,v4,a5] 27 (0,0)):=zzS _ _ 4 _ _ v4 h3
 have h5:((((((w.setCell ⟨B,0,none⟩ v0).setCell ⟨B,1,none⟩ v1).setCell ⟨B,2,none⟩ v2).setCell ⟨B,3,none⟩ v3).setCell ⟨B,4,none⟩ v4).setCell ⟨B,5,none⟩ v5).heap[B]?=some (.cells #[v0,v1,v2,v3,v4,v5] 27 (0,0)):=zzS _ _ 5 _ _ v5 h4
 exact h5
theorem OffB.six (X:Nat) (wx:World) (v0 v1 v2 v3 v4 v5:Value):OffB X wx ((((((wx.setCell ⟨X,0,none⟩ v0).setCell ⟨X,1,none⟩ v1).setCell ⟨X,2,none⟩ v2).setCell ⟨X,3,none⟩ v3).setCell ⟨X,4,none⟩ v4).setCell ⟨X,5,none⟩ v5):=(((((OffB.set X wx 0 v0).trans (OffB.set X _ 1 v1)).trans (OffB.set X _ 2 v2)).trans (OffB.set X _ 3 v3)).trans (OffB.set X _ 4 v4)).trans (OffB.set X _ 5 v5)
theorem ziM {w wx:World} {X:Nat} (h:Below X w wx) (v0 v1 v2 v3 v4 v5:Value):Below X w ((((((wx.setCell ⟨X,0,none⟩ v0).setCell ⟨X,1,none⟩ v1).setCell ⟨X,2,none⟩ v2).setCell ⟨X,3,none⟩ v3).setCell ⟨X,4,none⟩ v4).setCell ⟨X,5,none⟩ v5):=((((((h.setCell (p:=⟨X,0,none⟩) (zzL _) v0).setCell (p:=⟨X,1,none⟩) (zzL _) v1).setCell (p:=⟨X,2,none⟩) (zzL _) v2).setCell (p:=⟨X,3,none⟩) (zzL _) v3).setCell (p:=⟨X,4,none⟩) (zzL _) v4).setCell (p:=⟨X,5,none⟩) (zzL _) v5)
theorem Out2.six {X:Nat} {w:World} {a0 a1 a2 a3 a4 a5 e:Value} (h:Out2 X w #[a0,a1,a2,a3,a4,a5] e) (v0 v1 v2 v3 v4 v5 e2:Value):Out2 X (((((((w.setCell ⟨X,0,none⟩ v0).setCell ⟨X,1,none⟩ v1).setCell ⟨X,2,none⟩ v2).setCell ⟨X,3,none⟩ v3).setCell ⟨X,4,none⟩ v4).setCell ⟨X,5,none⟩ v5).setCell ⟨X+1,0,none⟩ e2) #[v0,v1,v2,v3,v4,v5] e2:=
 ⟨((OffB.set (X+1) _ 0 e2).2 _ (by omega)).trans (ztL _ _ _ _ _ _ h.x),zzS _ _ 0 _ _ e2 (((OffB.six X w _ _ _ _ _ _).2 _ (by omega)).trans h.e)⟩
theorem Out2.below {X:Nat} {w w':World} {row:Array Value} {e:Value} (h:Out2 X w row e) (hb:Below w.heap.size w w'):Out2 X w' row e:=
 ⟨(hb.block _ (zc h.x)).trans h.x,(hb.block _ (zc h.e)).trans h.e⟩
theorem Out2.grown {X:Nat} {w w':World} {row:Array Value} {e:Value} (h:Out2 X w row e) (hg:w.grownBy w' (some (X+2))):Out2 X w' row e:=
 ⟨(hg.block _ (zc h.x) (by simp)).trans h.x,(hg.block _ (zc h.e) (by simp)).trans h.e⟩
theorem zkN (a b:Value) (w:World):
  CallsD Tryz.prog 51 #[a,b] .returning w fun e u' w'=>e= .returned (.tuple #[])/\u'= .returning/\w'=w:=by
 refine callsD_of_wpS Tryz.func51 rfl fun c₀ cs hu=>?_
 apply wpS_seq;generalize hK:Exit.thenS _ _=K;apply wpS_region;simp [wpOpsS,go_sem,recoverD,hu,Tryz.ntmps51];subst hK;simp only [Exit.thenS];refine wpS_of_wp ?_;go_wp2_with fail
 cases c₀
 simp_all [bodyPostS,results,Tryz.results51]
theorem zha (X:Nat) (v0 v1 v2 v3 v4 v5 e:Value) (older:List PanicEntry) (w:World) (h:Out2 X w #[v0,v1,v2,v3,v4,v5] e):
  CallsD Tryz.prog 51 #[.pointer (some ⟨X,0,none⟩),.pointer (some ⟨X+1,0,none⟩)] (.panicking ({v:=.iface 103 (.agg #[]),recovered:=false}::older)) w fun e u' w'=>
   e= .returned (.tuple #[])/\u'= .panicking ({v:=.iface 103 (.agg #[]),recovered:=true}::older)/\Out2 X w' zf5 (.int .i64 6)/\Below X w w':=by
 have hta: ∀wx:World,(Instr.typeAssert (Value.iface 103 (.agg #[])) 20 103 true).run Tryz.prog wx= .ok (.tuple #[.agg #[],.bool true]) wx:=fun wx=>by kernel_rfl
 refine callsD_of_wpS Tryz.func51 rfl fun c₀ cs hu=>?_
 apply wpS_seq;generalize hK:Exit.thenS _ _=K;apply wpS_region;simp [wpOpsS,go_sem,recoverD,hu,Tryz.ntmps51];subst hK;simp only [Exit.thenS];refine wpS_of_wp ?_;have hx:=zc h.x;have hx1:=zc h.e;have hb:Below w.heap.size w (w.alloc (.cells #[] 103)):=zzE _ _;have h2:Out2 X (w.alloc (.cells #[] 103)) #[v0,v1,v2,v3,v4,v5] e:=h.below hb;go_upto_region 5 with fail;generalize w.alloc _=w1 at *;clear h;obtain⟨c0,c1,c2,c3,c4,c5,d0,d1,d2,d3,d4,d5⟩:=zdt h2.x;have k1:w1.cell? ⟨X+1,0,none⟩=some e:=zzq2 w1 _ 0 _ _ _ h2.e;have f1:w1.frozen? ⟨X+1,0,none⟩=false:=zzq17 w1 _ 0 _ _ h2.e;have hO:=h2.six (.string ⟨#[]⟩) (.int .i64 0) (.slice none 0 0) (.slice none 0 0) (.slice none 0 0) (.slice none 0 0) (.int .i64 6);have hB:Below X w _:=(ziM (hb.mono (zzb hx)) (.string ⟨#[]⟩) (.int .i64 0) (.slice none 0 0) (.slice none 0 0) (.slice none 0 0) (.slice none 0 0)).setCell (p:=⟨X+1,0,none⟩) (show X<=X+1 by omega) (.int .i64 6);go_wp2_with fail;clear h2 c0 c1 c2 c3 c4 c5 d0 d1 d2 d3 d4 d5 k1 f1;generalize World.setCell _ ⟨X+1,0,none⟩ _=w9 at *;simp [bodyPostS,results,Tryz.results51];exact⟨hO,hB⟩
end Go.Proofs.YtijekmeocadkeaaGreatDoor
