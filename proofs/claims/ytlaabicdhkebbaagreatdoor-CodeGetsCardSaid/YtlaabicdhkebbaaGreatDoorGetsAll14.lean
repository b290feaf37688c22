/- part 14 -/
import Derived.Test.YtlaabicdhkebbaaGreatDoorGetsAll10
import Derived.Test.YtlaabicdhkebbaaGreatDoorGetsAll12
namespace Go.Proofs.YtlaabicdhkebbaaGreatDoor
open Go.RowKit
set_option linter.unusedVariables false
set_option linter.unusedSimpArgs false
set_option maxRecDepth 100000
set_option maxHeartbeats 80000000
theorem zcf (σ:QS):(zv σ).1<4398046511104:=by
 unfold zv;split
 ·show 0<_;omega
 ·cases h:vD σ.l with
  |none=>show 0<_;omega
  |some x=>exact(zcE h).1
theorem zbE (r:Nat) (σ:QS) (w:World) (h:RdQ r σ w):
  Calls Tryz.prog 47 #[.pointer (some ⟨r,0,none⟩)] w (zbz r w (fun n:Nat=>Value.int .i64 n) (zv σ)):=by
 cases hb:σ.bad with
 |true=>
  have e:zv σ=(0,σ):=if_pos hb;rw [e];exact zpx r σ w h hb
 |false=>exact zog r σ w h hb
theorem RdQ.below {r:Nat} {σ:QS} {w w':World} (h:RdQ r σ w) (hb:Below w.heap.size w w'):RdQ r σ w':=by
 obtain⟨s,h1,h2⟩:=h;exact⟨s,(hb.block r (zc h1)).trans h1,h2⟩
theorem RdQ.off {r:Nat} {σ:QS} {X:Nat} {w w':World} (h:RdQ r σ w) (ho:OffB X w w') (hr:r≠X):RdQ r σ w':=by
 obtain⟨s,h1,h2⟩:=h;exact⟨s,(ho.2 r hr).trans h1,h2⟩
theorem zlb {n:Nat} {σ:QS} (h:σ.bad=true∨σ.l.length<n):zge n σ=(⟨#[]⟩,⟨σ.l,true⟩):=if_pos h
theorem zf7 (r:Nat) (σ:QS) (w:World) (h:RdQ r σ w):
  Calls Tryz.prog 46 #[.pointer (some ⟨r,0,none⟩)] w (zbz r w Value.string (zbK σ)):=by
 have HN:=zbE r σ w h;have hn:=zcf σ;have HD:Hid (zbK σ=zge (zv σ).1 (zv σ).2):=zzH rfl;generalize hQ:zbz r w Value.string (zbK σ)=Q at *;have HQ:=zzH hQ;clear hQ;unfold zbz at HN;generalize(zv σ).1=n at *;generalize(zv σ).2=σ1 at *;go_in;go_upto_region 2 with(go_at_call 47;refine HN.mono ?_;rintro e w1 ⟨rfl,⟨s,hr,hl,hs⟩,hg1⟩);have hlen:σ1.l.length=s.size:=by rw [<-hl,Array.length_toList];rfl
 have hlt:=zc hr;have HR:=zzH hr;by_cases c:n<=s.size
 case neg=>
  have HE:Hid (zbK σ=(⟨#[]⟩,⟨σ1.l,true⟩)):=zzH (by rw [HD.out];exact zlb (.inr (by omega)));have d1:(n:Int)>(s.size:Int):=by omega
  obtain⟨c0,c1,f0,f1⟩:=zb4 hr;clear hlen c HD hr;go_wp2_with fail;rw [<-HQ.out,HE.out];exact⟨rfl,⟨s,zzS w1 r 1 _ _ _ HR.out,hl,hs⟩,zh hg1 (zG _ _ _ _)⟩
 have d1: ¬(n:Int)>(s.size:Int):=by omega
 cases hb:σ1.bad with
 |true=>
  have HE:Hid (zbK σ=(⟨#[]⟩,⟨σ1.l,true⟩)):=zzH (by rw [HD.out];exact zlb (.inl hb));rw [hb]at hr HR;obtain⟨c0,c1,f0,f1⟩:=zb4 hr;clear hlen c HD hr hb;go_wp2_with fail;rw [<-HQ.out,HE.out];exact⟨rfl,⟨s,HR.out,hl,hs⟩,hg1⟩
 |false=>
  have HE:Hid (zbK σ=(s.extract 0 n,⟨σ1.l.drop n,false⟩)):=zzH (by
   rw [HD.out];unfold zge;rw [if_neg (by rw [hb];simp;omega)];congr 1;apply ByteArray.ext;apply Array.ext';rw [ByteArray.data_extract,Array.toList_extract,List.extract_eq_take_drop,hl];rfl)
  have HX:Hid ((s.extract n s.size).data.toList=σ1.l.drop n):=zzH (by
   rw [ByteArray.data_extract,Array.toList_extract,List.extract_eq_take_drop,hl,List.take_of_length_le (by rw [List.length_drop];omega)])
  have HSX:Hid ((s.extract n s.size).size<=68719476736):=zzH (by rw [ByteArray.size_extract,Nat.min_self];exact zzY (Nat.sub_le _ _) hs);rw [hb]at hr HR;obtain⟨c0,c1,f0,f1⟩:=zb4 hr;clear hlen HD hr hb;go_wp2_with fail;rw [<-HQ.out,HE.out];exact⟨rfl,⟨_,zzS w1 r 0 _ _ _ HR.out,HX.out,HSX.out⟩,zh hg1 (zG _ _ _ _)⟩
theorem zgu (r:Nat) (σ:QS) (w:World) (h:RdQ r σ w):
  Calls Tryz.prog 72 #[.pointer (some ⟨r,0,none⟩)] w (zbz r w (fun a:RArg=>Value.agg #[.int .i64 a.kind,.int .i64 a.n]) (zcu σ)):=by
 have hba:=(zzR w.heap.size w).alloc (zzL _) (.cells #[.int .i64 0,.int .i64 0] 59);have hx:=heap_alloc_new w (.cells #[.int .i64 0,.int .i64 0] 59);have HN:=zbE r σ _ (h.below hba);have hn:=zcf σ;have hgw:=zbf hba (some r);have hrl:=h.lt;have HD:Hid (zcu σ=(⟨(((zv σ).1%4:Nat):Int),(((zv σ).1/4:Nat):Int)⟩,(zv σ).2)):=zzH rfl;generalize hQ:zbz r w (fun a:RArg=>Value.agg #[.int .i64 a.kind,.int .i64 a.n]) (zcu σ)=Q at *;have HQ:=zzH hQ;clear hQ;unfold zbz at HN;generalize(zv σ).1=n at *;generalize(zv σ).2=σ1 at *;go_in;go_upto_region 1 with fail;generalize w.alloc _=w0 at *;go_upto_region 2 with(go_at_call 47;refine HN.mono ?_;rintro e w1 ⟨rfl,hr,hg1⟩);have hx1:w1.heap[w.heap.size]?=_:=(hg1.block _ (zc hx) (fun e=>by have:=Option.some.inj e;omega)).trans hx
 have x0:w1.cell? ⟨w.heap.size,0,none⟩=some (.int .i64 0):=zzq2 w1 _ 0 _ _ _ hx1;have x1:w1.cell? ⟨w.heap.size,1,none⟩=some (.int .i64 0):=zzq2 w1 _ 1 _ _ _ hx1;have y0:w1.frozen? ⟨w.heap.size,0,none⟩=false:=zzq9 w1 _ 0 _ _ hx1;have y1:w1.frozen? ⟨w.heap.size,1,none⟩=false:=zzq9 w1 _ 1 _ _ hx1;go_wp2_with fail;rw [show(n:Int)%4=((n%4:Nat):Int)by omega,show(n:Int)/4=((n/4:Nat):Int)by omega];have hres:((w1.setCell ⟨w.heap.size,0,none⟩ (.int .i64 ((n%4:Nat):Int))).setCell ⟨w.heap.size,1,none⟩ (.int .i64 ((n/4:Nat):Int))).heap[w.heap.size]?=some (.cells #[.int .i64 ((n%4:Nat):Int),.int .i64 ((n/4:Nat):Int)] 59 (0,0)):=zzS _ _ 1 _ _ _ (zzS _ _ 0 _ _ _ hx1)
 refine bodyPost_ret (results_cell_row rfl _ _ w.heap.size _ _ _ _ rfl hres Tryz.underlying59 rfl (by kernel_rfl)) rfl ?_;rw [<-HQ.out,HD.out];exact⟨rfl,(hr.off (OffB.set _ _ _ _) (by omega)).off (OffB.set _ _ _ _) (by omega),zC (zh hgw hg1) (((zzR _ _).setCell (p:=⟨w.heap.size,0,none⟩) (zzL _) _).setCell (p:=⟨w.heap.size,1,none⟩) (zzL _) _)⟩
def zks (B:Nat) (o:Option Nat) (b:Nat):Prop:=B<=b/\o≠some b
def Lies {α:Type} (w:World) (B sz:Nat) (E:Way α) (o:Option Nat) (v:Value) (ts:List α):Prop:= ∃ao c,v= .slice ao ts.length c/\SlIn w (zks B o) sz (E.on w (zks B o)) ao ts
section
variable {α:Type} {B sz:Nat} {E:Way α} {o:Option Nat} {v:Value} {ts:List α} {w w':World}
theorem Lies.nil:Lies w B sz E o (.slice none 0 0) []:=⟨none,0,rfl,.inl rfl⟩
theorem Lies.move (h:Lies w B sz E o v ts) {o':Option Nat} {B':Nat} (hs:w.heap.size<=w'.heap.size) (hk: ∀b,zks B o b->b<w.heap.size->w'.heap[b]?=w.heap[b]?) (hP: ∀b,zks B o b->b<w.heap.size->zks B' o' b):Lies w' B' sz E o' v ts:=by
 obtain⟨ao,c,e,h⟩:=h;exact⟨ao,c,e,h.onKeep hs hk hP⟩
theorem Lies.grown (h:Lies w B sz E o v ts) {r:Nat} (hg:w.grownBy w' (some r)) (hr:r<B):Lies w' B sz E o v ts:=
 h.move hg.size (fun b hb hl=>hg.block b hl fun e=>by have:=Option.some.inj e;have:=hb.1;omega) fun _ h _=>h
theorem Lies.below (h:Lies w B sz E o v ts) (hb:Below w.heap.size w w'):Lies w' B sz E o v ts:=h.move hb.size (fun b _ hl=>hb.block b hl) fun _ h _=>h
theorem Lies.off (h:Lies w B sz E o v ts) {Y:Nat} (ho:OffB Y w w') (hY:Y<B):Lies w' B sz E o v ts:=h.move ho.1 (fun b hb _=>ho.2 b (by have:=hb.1;omega)) fun _ h _=>h
theorem Lies.app (h:Lies w B sz E o v ts) {o':Option Nat} (hg:w.grownBy w' o) (hat: ∀k,o'=some k->o=some k∨w.heap.size<=k):Lies w' B sz E o' v ts:=
 h.move hg.size (fun b hb hl=>hg.block b hl fun e=>hb.2 e.symm) fun b hb hl=>⟨hb.1,fun e=>by
  rcases hat b e with h|h
  ·exact hb.2 h
  ·omega⟩
theorem Lies.any (h:Lies w B sz E none v ts): ∃ao c,v= .slice ao ts.length c/\SlIn w (B<= ·) sz (E.on w (B<= ·)) ao ts:=by
 obtain⟨ao,c,e,h⟩:=h;exact⟨ao,c,e,h.onKeep (zzL _) (fun _ _ _=>rfl) fun b hb _=>hb.1⟩
theorem Lies.none (h:Lies w B sz E o v ts):Lies w B sz E none v ts:=h.move (zzL _) (fun _ _ _=>rfl) fun b hb _=>⟨hb.1,by simp⟩
theorem AccG.lies {T:TypeId} (h:AccG T sz E B v ts w):Lies w B sz E none v ts:=by
 obtain⟨ao,c,e,h⟩:=h.sl;exact⟨ao,c,e,h.onKeep (zzL _) (fun _ _ _=>rfl) fun b hb _=>⟨hb,by simp⟩⟩
end
structure IB (T:TypeId) (Z:Array Value) (w0:World) (r:Nat) (σ:QS) (X Y R B:Nat) (Ro:Obj) (row:Array Value) (wx:World):Prop where
 rd:RdQ r σ wx
 gr:w0.grownBy wx (some r)
 x:wx.heap[X]?=some (.cells Z T (0,0))
 y:wx.heap[Y]?=some (.cells row T (0,0))
 rw:wx.heap[R]?=some Ro
 hr:r<w0.heap.size
 hX:X=w0.heap.size
 hY:X<Y
 hR:X<=R/\R<B/\R≠Y
 hB:Y<B
 hBw:B<=wx.heap.size
section
variable {T:TypeId} {Z:Array Value} {w0:World} {r:Nat} {σ σ':QS} {X Y R B:Nat} {Ro:Obj} {row row':Array Value} {wx wy:World}
theorem IB.call (S:IB T Z w0 r σ X Y R B Ro row wx) (hr:RdQ r σ' wy) (hg:wx.grownBy wy (some r)):IB T Z w0 r σ' X Y R B Ro row wy:=by
 have hX:=S.hX;have hY:=S.hY;have hR:=S.hR;have hrw:=S.hr;exact⟨hr,zh S.gr hg,zbX hg S.hr (by omega) S.x,zbX hg S.hr (by omega) S.y,zbX hg S.hr (by omega) S.rw,S.hr,S.hX,S.hY,S.hR,S.hB,zzY S.hBw hg.size⟩
theorem IB.below (S:IB T Z w0 r σ X Y R B Ro row wx) (hb:Below wx.heap.size wx wy):IB T Z w0 r σ X Y R B Ro row wy:=
 ⟨S.rd.below hb,zC S.gr (hb.mono S.gr.size),(hb.block _ (zc S.x)).trans S.x,(hb.block _ (zc S.y)).trans S.y,(hb.block _ (zc S.rw)).trans S.rw,S.hr,S.hX,S.hY,S.hR,S.hB,zzY S.hBw hb.size⟩
theorem IB.put (S:IB T Z w0 r σ X Y R B Ro row wx) (ho:OffB Y wx wy) (hbl:Below Y wx wy) (hy:wy.heap[Y]?=some (.cells row' T (0,0))):IB T Z w0 r σ X Y R B Ro row' wy:=by
 have hX:=S.hX;have hY:=S.hY;have hR:=S.hR;have hrw:=S.hr;exact⟨S.rd.off ho (by omega),zC S.gr (hbl.mono (by omega)),(ho.2 X (by omega)).trans S.x,hy,(ho.2 R (by omega)).trans S.rw,S.hr,S.hX,S.hY,S.hR,S.hB,zzY S.hBw ho.1⟩
theorem IB.app (S:IB T Z w0 r σ X Y R B Ro row wx) {o:Option Nat} (hg:wx.grownBy wy o) (ho: ∀k,o=some k->B<=k):IB T Z w0 r σ X Y R B Ro row wy:=by
 have hX:=S.hX;have hY:=S.hY;have hR:=S.hR;have hrw:=S.hr;have hB:=S.hB;have hk: ∀b,b<B->wy.heap[b]?=wx.heap[b]?:=fun b hb=>hg.block b (zzW hb S.hBw) fun e=>by have:=ho b e.symm;omega
 obtain⟨s,h1,h2⟩:=S.rd;exact⟨⟨s,(hk r (by omega)).trans h1,h2⟩,zcF S.gr hg (fun k e=>by have:=ho k e;omega),(hk X (by omega)).trans S.x,(hk Y (by omega)).trans S.y,(hk R (by omega)).trans S.rw,S.hr,S.hX,S.hY,S.hR,S.hB,zzY S.hBw hg.size⟩
theorem IB.hrB (S:IB T Z w0 r σ X Y R B Ro row wx):r<B:=by have:=S.hr;have:=S.hX;have:=S.hY;have:=S.hB;omega
end
theorem zfM {α β:Type} (q:Rdr α) (z:α) (k:α->Rdr β) (σ:QS):zZ (zdG true q z) k σ=k (q σ).1 (q σ).2:=rfl
theorem zhd {α β:Type} (q:Rdr α) (z:α) (k:α->Rdr β) (σ:QS):zZ (zdG false q z) k σ=k z σ:=rfl
theorem zq9 {α:Type} (q:Rdr α) (n:Nat) (σ:QS) (h:σ.bad=true):zed q n σ=([],σ):=by
 cases n with
 |zero=>rfl
 |succ n=>unfold zed;rw [if_pos h]
theorem zpc {α:Type} (q:Rdr α) (n:Nat) (σ:QS) (h:σ.bad=false):zed q (n+1) σ=((q σ).1::(zed q n (q σ).2).1,(zed q n (q σ).2).2):=by
 conv=>lhs;unfold zed
 rw [if_neg (by rw [h];simp)]
def onQ {α β:Type} (q:Rdr α) (k:List α->Rdr β) (ts:List α) (n:Nat) (σ:QS):β × QS:=k (ts++(zed q n σ).1) (zed q n σ).2
theorem zfb {α β:Type} (q:Rdr α) (k:List α->Rdr β) (ts:List α) (n:Nat) (σ:QS) (h:σ.bad=false):onQ q k ts (n+1) σ=onQ q k (ts++ [(q σ).1]) n (q σ).2:=by
 unfold onQ;rw [zpc q n σ h,zzq4];rfl
theorem ze5 {α β:Type} (q:Rdr α) (k:List α->Rdr β) (ts:List α) (σ:QS):onQ q k ts 0 σ=k ts σ:=by unfold onQ zed;rw [List.append_nil]
theorem zfT {α β:Type} (q:Rdr α) (k:List α->Rdr β) (ts:List α) (n:Nat) (σ:QS) (h:σ.bad=true):onQ q k ts n σ=k ts σ:=by unfold onQ;rw [zq9 q n σ h,List.append_nil]
def qi8 (rr:RRow) (op:Int) (d:RArg) (ss:List RArg) (n:Int) (nm:ByteArray) (cs:List RCase) (gs:List RSeg) (tg:Int):Rdr RIns:=zZ (zdG rr.h zc2 0) fun lv=>zfu ⟨op,d,ss,tg,n,lv,nm,cs,gs⟩
def qi7 (rr:RRow) (op:Int) (d:RArg) (ss:List RArg) (n:Int) (nm:ByteArray) (cs:List RCase) (gs:List RSeg):Rdr RIns:=zZ (zdG rr.g zc2 0) fun tg=>qi8 rr op d ss n nm cs gs tg
def qi6 (rr:RRow) (op:Int) (d:RArg) (ss:List RArg) (n:Int) (nm:ByteArray) (cs:List RCase):Rdr RIns:=zZ (zdG rr.f (zdA ziy) []) fun gs=>qi7 rr op d ss n nm cs gs
def qi5 (rr:RRow) (op:Int) (d:RArg) (ss:List RArg) (n:Int) (nm:ByteArray):Rdr RIns:=zZ (zdG rr.e (zdA zgB) []) fun cs=>qi6 rr op d ss n nm cs
def qi4 (rr:RRow) (op:Int) (d:RArg) (ss:List RArg) (n:Int):Rdr RIns:=zZ (zdG rr.d zbK ⟨#[]⟩) fun nm=>qi5 rr op d ss n nm
def qi3 (rr:RRow) (op:Int) (d:RArg) (ss:List RArg):Rdr RIns:=zZ (zdG rr.c zc2 0) fun n=>qi4 rr op d ss n
def qi2 (rr:RRow) (op:Int) (d:RArg):Rdr RIns:=zZ (zdG rr.b (zdA zcu) []) fun ss=>qi3 rr op d ss
def qi1 (rr:RRow) (op:Int):Rdr RIns:=zZ (zdG rr.a zcu ⟨0,0⟩) fun d=>qi2 rr op d
theorem zg2 {α β:Type} (q:Rdr α) (z:List α) (k:List α->Rdr β) (σ:QS):zZ (zdG true (zdA q) z) k σ=onQ q k [] (zv σ).1 (zv σ).2:=rfl
theorem zfD {w:World} {B:Nat} {v0 v1 v2 v3 v4 v5:Value} (h:w.heap[B]?=some (.cells #[v0,v1,v2,v3,v4,v5] 98 (0,0))):
  w.cell? ⟨B,0,none⟩=some v0/\w.cell? ⟨B,1,none⟩=some v1/\w.cell? ⟨B,2,none⟩=some v2/\w.cell? ⟨B,3,none⟩=some v3/\w.cell? ⟨B,4,none⟩=some v4/\w.cell? ⟨B,5,none⟩=some v5/\w.frozen? ⟨B,0,none⟩=false/\w.frozen? ⟨B,1,none⟩=false/\w.frozen? ⟨B,2,none⟩=false/\w.frozen? ⟨B,3,none⟩=false/\w.frozen? ⟨B,4,none⟩=false/\w.frozen? ⟨B,5,none⟩=false:=by
 have hc:=fun j=>zzq2 w B j _ _ _ h
 have hf:=fun j=>zzq9 w B j _ _ h
 exact⟨hc 0,hc 1,hc 2,hc 3,hc 4,hc 5,hf 0,hf 1,hf 2,hf 3,hf 4,hf 5⟩
def zhb:Nat->Code->Code
 |0,c=>c
 |n+1,.seq _ b=>zhb n b
 |_,c=>c
theorem zdK (k:Nat) (h:k<=128):zm 0 k=false:=by unfold zm;simp
theorem zrA (σ:QS):zc9 σ=qi1 (zd3 ((zv σ).1:Nat)) ((zv σ).1:Nat) ⟨(zv σ).2.l,(zv σ).2.bad|| !(zc5 ((zv σ).1:Nat))⟩:=by
 rw [show zc9 σ=(zZ (zdC (decide (1<=((zv σ).1:Int)/\((zv σ).1:Int)<=40)) ()) fun _=>zhc ((zv σ).1:Int) (if 1<=((zv σ).1:Int)/\((zv σ).1:Int)<=40 then(zw ((zv σ).1:Int)).1.toNat else 0)) (zv σ).2 from rfl];generalize((zv σ).1:Int)=o;by_cases c:1<=o/\o<=40
 ·rw [zhn c]
  unfold zZ zdC;rw [if_pos c,decide_eq_true c,show zc5 o=true from decide_eq_true c]
  rfl
 ·rw [zlr c]
  unfold zZ zdC;rw [if_neg c,decide_eq_false c,show zc5 o=false from decide_eq_false c];show zhc o 0 _=qi1 zRow o _;unfold zhc qi1 qi2 qi3 qi4 qi5 qi6 qi7 qi8;rw [zdK 1 (by decide),zdK 2 (by decide),zdK 4 (by decide),zdK 8 (by decide),zdK 16 (by decide),zdK 32 (by decide),zdK 64 (by decide),zdK 128 (by decide)]
  rfl
theorem zfX {α:Type} {q:Rdr α} {d:Dec α} (h:Sim q d) (hd: ∀l x l',d l=some (x,l')->l'.length<l.length) (σ:QS) (h0:σ.bad=false) (h1:(q σ).2.bad=false):(q σ).2.l.length<σ.l.length:=by
 obtain⟨l,b⟩:=σ;subst h0
 cases e:d l with
 |none=>have:=h.no l e;rw [h1]at this;exact absurd this (by decide)
 |some x=>rw [h.yes l x e];exact hd l x.1 x.2 e
theorem zdO (σ:QS):(zv σ).2.l.length<=σ.l.length:=by
 unfold zv;split
 ·exact zzL _
 ·cases h:vD σ.l with
  |none=>exact zzL _
  |some x=>exact(zcE h).2
theorem zd5 {n:Nat} (h:n<4398046511104):I64 (n:Int):=by unfold I64;omega
theorem zhw (σ:QS):I64 (zcu σ).1.kind/\I64 (zcu σ).1.n:=by
 have h:=zcf σ;show I64 (((zv σ).1%4:Nat):Int)/\I64 (((zv σ).1/4:Nat):Int);exact⟨zd5 (by omega),zd5 (by omega)⟩
theorem RdQ.len {r:Nat} {σ:QS} {w:World} (h:RdQ r σ w):σ.l.length<=68719476736:=by
 obtain⟨s,h1,h2,h3⟩:=h;rw [<-h2,Array.length_toList];exact h3
theorem RdQ.row {r:Nat} {σ:QS} {w:World} (h:RdQ r σ w): ∃s,w.heap[r]?=some (.cells #[.string s,.bool σ.bad] 70 (0,0)):=by
 obtain⟨s,h1,-⟩:=h;exact⟨s,h1⟩
theorem RdQ.bad {r:Nat} {σ:QS} {w:World} (h:RdQ r σ w) (b:Bool):RdQ r ⟨σ.l,b⟩ (w.setCell ⟨r,1,none⟩ (.bool b)):=by
 obtain⟨s,h1,h2⟩:=h;exact⟨s,zzS w r 1 _ _ _ h1,h2⟩
theorem IB.setBad {T:TypeId} {Z:Array Value} {w0:World} {r:Nat} {σ:QS} {X Y R B:Nat} {Ro:Obj} {row:Array Value} {wx:World} (S:IB T Z w0 r σ X Y R B Ro row wx) (b:Bool):IB T Z w0 r ⟨σ.l,b⟩ X Y R B Ro row (wx.setCell ⟨r,1,none⟩ (.bool b)):=
 S.call (S.rd.bad b) (zG wx r 1 _)
def LN {α:Type} (w:World) (B sz:Nat) (E:Way α) (o:Option Nat) (v:Value) (ts:List α):Prop:=Lies w B sz E o v ts/\(ts= []->v= .slice none 0 0)
section
variable {α:Type} {B sz:Nat} {E:Way α} {o:Option Nat} {v:Value} {ts:List α} {w w':World}
theorem zfL {T:TypeId} (h:AccG T sz E B v ts w): ∀k,v.ownBlock=some k->B<=k/\k<w.heap.size:=by obtain⟨xs0,ho0,-⟩:=h.own;exact ho0.lt
theorem LN.nil:LN w B sz E o (.slice none 0 0) []:=⟨Lies.nil,fun _=>rfl⟩
theorem LN.grown (h:LN w B sz E o v ts) {r:Nat} (hg:w.grownBy w' (some r)) (hr:r<B):LN w' B sz E o v ts:=⟨h.1.grown hg hr,h.2⟩
theorem LN.below (h:LN w B sz E o v ts) (hb:Below w.heap.size w w'):LN w' B sz E o v ts:=⟨h.1.below hb,h.2⟩
theorem LN.off (h:LN w B sz E o v ts) {Y:Nat} (ho:OffB Y w w') (hY:Y<B):LN w' B sz E o v ts:=⟨h.1.off ho hY,h.2⟩
theorem LN.app (h:LN w B sz E o v ts) {o':Option Nat} (hg:w.grownBy w' o) (hat: ∀k,o'=some k->o=some k∨w.heap.size<=k):LN w' B sz E o' v ts:=⟨h.1.app hg hat,h.2⟩
theorem LN.bare (h:LN w B sz E o v ts):LN w B sz E none v ts:=⟨h.1.none,h.2⟩
theorem LN.any (h:LN w B sz E none v ts): ∃ao c,v= .slice ao ts.length c/\SlIn w (B<= ·) sz (E.on w (B<= ·)) ao ts:=h.1.any
end
def zgA (r:Nat) (w:World) (x:RIns × QS) (e:Ending) (w':World):Prop:=
 (∃so sc co cc go gc,e= .returned (.agg #[.int .i64 x.1.op,.int .i64 x.1.dst.kind,.int .i64 x.1.dst.n,.slice so x.1.src.length sc,.int .i64 x.1.to,.int .i64 x.1.n,.int .i64 x.1.live,.string x.1.name,.slice co x.1.cases.length cc,.slice go x.1.segs.length gc])/\Way.ins.on w' (w.heap.size<= ·) (#[.int .i64 x.1.op,.int .i64 x.1.dst.kind,.int .i64 x.1.dst.n,.slice so x.1.src.length sc,.int .i64 x.1.to,.int .i64 x.1.n,.int .i64 x.1.live,.string x.1.name,.slice co x.1.cases.length cc,.slice go x.1.segs.length gc]).toList x.1)/\RdQ r x.2 w'/\w.grownBy w' (some r)
def IQ (w0:World) (r:Nat) (σ:QS) (Y R B:Nat) (rr:RRow) (op:Int) (d:RArg) (ss:List RArg) (tg n lv:Int) (nm:ByteArray) (cs:List RCase) (gs:List RSeg) (wx:World):Prop:=
 ∃vs vc vg,IB 64 #[.int .i64 0,.int .i64 0,.int .i64 0,.slice none 0 0,.int .i64 0,.int .i64 0,.int .i64 0,.string ⟨#[]⟩,.slice none 0 0,.slice none 0 0] w0 r σ w0.heap.size Y R B (.cells rr.val 133 (0,0)) #[.int .i64 op,.int .i64 d.kind,.int .i64 d.n,vs,.int .i64 tg,.int .i64 n,.int .i64 lv,.string nm,vc,vg] wx/\LN wx B 2 (Way.pure zdj) none vs ss/\LN wx B 2 (Way.pure zcR) none vc cs/\LN wx B 6 (Way.pure zdk) none vg gs
theorem IQ.rowc {w0:World} {r:Nat} {σ:QS} {Y R B:Nat} {rr:RRow} {op:Int} {d:RArg} {ss:List RArg} {tg n lv:Int} {nm:ByteArray} {cs:List RCase} {gs:List RSeg} {wx:World} (S:IQ w0 r σ Y R B rr op d ss tg n lv nm cs gs wx):
  wx.cell? ⟨R,0,none⟩=some (.bool rr.a)/\wx.cell? ⟨R,1,none⟩=some (.bool rr.b)/\wx.cell? ⟨R,2,none⟩=some (.bool rr.c)/\wx.cell? ⟨R,3,none⟩=some (.bool rr.d)/\wx.cell? ⟨R,4,none⟩=some (.bool rr.e)/\wx.cell? ⟨R,5,none⟩=some (.bool rr.f)/\wx.cell? ⟨R,6,none⟩=some (.bool rr.g)/\wx.cell? ⟨R,7,none⟩=some (.bool rr.h):=by
 obtain⟨vs,vc,vg,S,-⟩:=S;have hc:=fun j=>zzq2 wx R j _ _ _ S.rw
 exact⟨hc 0,hc 1,hc 2,hc 3,hc 4,hc 5,hc 6,hc 7⟩
noncomputable def zqA:Code:=zhb 8 (Tryz.f49.body.getD .skip)
theorem zm9 (r:Nat) (σ0:QS) (w:World) (Q:Ending->World->Prop) (HQ:Hid (zgA r w (zc9 σ0)=Q)) (Y R B:Nat) (rr:RRow) (op:Int) (d:RArg) (ss:List RArg) (n:Int) (nm:ByteArray) (σ:QS) (wc:World) (ok:Bool)
  (u6 u7 u8 u9 u10 u11 u12 u13 u14 u15 u16 u17 u18 u19 u20 u21 u22 u23 u24 u25 u26 u27 u28 u29 u30 u31 u32 u33 u34 u35 u36 u37 u38 u39 u40 u41 u42 u43 u44 u45 u46 u47 u48 u49 u50 u51 u52 u53 u54 u55 u56 u57 u58 u59 u60 u61 u62 u63 u64 u65 u66 u67 u68 u69 u70 u71 u72 u73 u74 u75 u76 u77 u78 u79 u80 u81 u82 u83 u84 u85 u86 u87 u88 u89 u90 u91 u92 u93 u94 u95 u96 u97 u98 u99 u100 u101 u102 u103 u104 u105 u106 u107 u108 u109 u110 u111 u112 u113 u114 u115 u116 u117 u118 u119 u120 u121 u122 u123 u124 u125 u126 u127 u128 u129 u130 u131 u132 u133 u134 u135 u136 u137 u138 u139 u140 u141 u142 u143 u144 u145 u146 u147 u148 u149 u150 u151 u152 u153 u154 u155 u156 u157 u158 u159 u160 u161:Value) (HD:Hid (zc9 σ0=qi5 rr op d ss n nm σ)) (HS:Hid (IQ w r σ Y R B rr op d ss 0 n 0 nm ([]) ([]) wc)):
  Code.wp Tryz.prog zqA (bodyPost Tryz.prog Tryz.f49 Q) ⟨#[.pointer (some ⟨r,0,none⟩),undef,.pointer (some ⟨w.heap.size,0,none⟩),.pointer (some ⟨Y,0,none⟩),.pointer (some ⟨R,0,none⟩),.bool ok,u6,u7,u8,u9,u10,u11,u12,u13,u14,u15,u16,u17,u18,u19,u20,u21,u22,u23,u24,u25,u26,u27,u28,u29,u30,u31,u32,u33,u34,u35,u36,u37,u38,u39,u40,u41,u42,u43,u44,u45,u46,u47,u48,u49,u50,u51,u52,u53,u54,u55,u56,u57,u58,u59,u60,u61,u62,u63,u64,u65,u66,u67,u68,u69,u70,u71,u72,u73,u74,u75,u76,u77,u78,u79,u80,u81,u82,u83,u84,u85,u86,u87,u88,u89,u90,u91,u92,u93,u94,u95,u96,u97,u98,u99,u100,u101,u102,u103,u104,u105,u106,u107,u108,u109,u110,u111,u112,u113,u114,u115,u116,u117,u118,u119,u120,u121,u122,u123,u124,u125,u126,u127,u128,u129,u130,u131,u132,u133,u134,u135,u136,u137,u138,u139,u140,u141,u142,u143,u144,u145,u146,u147,u148,u149,u150,u151,u152,u153,u154,u155,u156,u157,u158,u159,u160,u161],[]⟩ wc:=by
 conv=>arg 2;whnf
 obtain⟨ha,hb,hc,hd,he,hf,hg,hh⟩:=HS.out.rowc;clear ha hb hc hd hf hg hh;obtain⟨qa,hqa⟩: ∃q,rr.e=q:=⟨_,rfl⟩;rw [hqa]at he;have HA:=zzH hqa;clear hqa;go_upto_if 77 with fail;clear he;go_cut [] (fun wx=> ∃(cs:List RCase) (σ2:QS),Hid (zc9 σ0=qi6 rr op d ss n nm cs σ2)/\Hid (IQ w r σ2 Y R B rr op d ss 0 n 0 nm cs ([]) wx))
 case first=>
  unfold qi5 at HD;rw [HA.out]at HD
  cases qa with
  |false=>
   exact zz137
  |true=>
   rw [zg2]at HD;obtain⟨vs,vc,vg,S,ls,lc,lg⟩:=HS.out;have H:=zbE r σ _ S.rd;have hn:=zcf σ;have hln:=zzY (zdO σ) S.rd.len;unfold zbz at H;generalize(zv σ).1=n0 at *;generalize(zv σ).2=σ2 at *;go_wp2_with (go_at_call 47;refine H.mono ?_;rintro e v5 ⟨rfl,hr5,hg5⟩);have S2:=S.call hr5 hg5;have ls2:=ls.grown hg5 S.hrB;have lc2:=lc.grown hg5 S.hrB;have lg2:=lg.grown hg5 S.hrB;clear H ls lc lg hr5 hg5 HS S;go_loopw [10] (fun iv wr=> ∃(k:Nat) (σ:QS) (ts:List RCase) (v vs vg:Value),iv= .int .i64 k/\Hid (zc9 σ0=onQ zgB (fun cs=>qi6 rr op d ss n nm cs) ts (n0-k) σ)/\k<=n0/\Hid (σ.bad=false->ts.length+σ.l.length<=68719476736)/\Hid (IB 64 #[.int .i64 0,.int .i64 0,.int .i64 0,.slice none 0 0,.int .i64 0,.int .i64 0,.int .i64 0,.string ⟨#[]⟩,.slice none 0 0,.slice none 0 0] w r σ w.heap.size Y R B (.cells rr.val 133 (0,0)) #[.int .i64 op,.int .i64 d.kind,.int .i64 d.n,vs,.int .i64 0,.int .i64 n,.int .i64 0,.string nm,v,vg] wr)/\Hid (AccG 94 2 (Way.pure zcR) B v ts wr)/\Hid (LN wr B 2 (Way.pure zdj) v.ownBlock vs ss/\LN wr B 6 (Way.pure zdk) v.ownBlock vg [])/\Hid (ts= []->v= .slice none 0 0)) (fun iv _=>n0-(intOf iv).toNat)
   case atStart=>
    have e0:=lc2.2 rfl;subst e0;exact⟨0,σ2,[],.slice none 0 0,vs,vg,rfl,HD,zzZ _,zzH (fun _=>by simpa using hln),zzH S2,zzH (AccG.nil _),zzH ⟨ls2,lg2⟩,zzH (fun _=>rfl)⟩
   case round=>
    obtain⟨k,σ,ts,v,vs,vg,rfl,HD,hk,HL,HB,HA,HO,HN⟩:=hrel;have S:=HB.out;obtain⟨s2,hs2⟩:=S.rd.row;obtain⟨c0,c1,f0,f1⟩:=zb4 hs2;clear hs2
    cases hb:σ.bad with
    |true=>
     rw [hb]at c1;have HX:=zzH (HD.out.trans (zfT _ _ _ _ _ hb));clear HD HL;by_cases hlt:k<n0
     ·have d1:decide (k<n0)=true:=zzT hlt
      exact zz134
     ·have d1:decide (k<n0)=false:=zzD hlt
      exact zz134
    |false=>
     rw [hb]at c1;by_cases hlt:k<n0
     case neg=>
      have e0:n0-k=0:=by omega
      rw [e0]at HD;have HX:=zzH (HD.out.trans (ze5 _ _ _ _));have d1:decide (k<n0)=false:=zzD hlt;clear HD HL e0;exact zz134
     have e1:n0-k=(n0-(k+1))+1:=by omega
     rw [e1,zfb _ _ _ _ _ hb]at HD;clear e1;have d1:decide (k<n0)=true:=zzT hlt;have hlen:=HL.out hb;have hrB:=S.hrB;clear HL;have H:=zbE r σ _ S.rd;have hn1:=zcf σ;have h21:=zdO σ;have HLE:=zzH (fun h=>zfX zjZ zkk σ hb h);rw [show(zgB σ).1=⟨((zv σ).1:Int),((zv (zv σ).2).1:Int)⟩from rfl,show(zgB σ).2=(zv (zv σ).2).2 from rfl]at HD;rw [show(zgB σ).2=(zv (zv σ).2).2 from rfl]at HLE;unfold zbz at H;generalize(zv σ).1=a1 at *;generalize(zv σ).2=σ1 at *;go_upto_region 23 with(go_at_call 47;refine H.mono ?_;rintro e v4 ⟨rfl,hr4,hg4⟩);have H:=zbE r σ1 _ hr4;have hn2:=zcf σ1;unfold zbz at H;generalize(zv σ1).1=a2 at *;generalize(zv σ1).2=σ2 at *;go_upto_region 24 with(go_at_call 47;refine H.mono ?_;rintro e v6 ⟨rfl,hr5,hg5⟩);have hgw:=zh hg4 hg5;have S2:=S.call hr5 hgw;have HA2:=HA.out.grown hgw hrB;have HO2:=zzH (And.intro (HO.out.1.grown hgw hrB) (HO.out.2.grown hgw hrB));clear hg5 hr5 H S c0 c1 f0 f1 hg4 hr4 h21;generalize hx:(⟨(a1:Int),(a2:Int)⟩:RCase)=x at *;have HVAL:Hid ((Way.pure zcR).on v6 (v6.heap.size<= ·) [.int .i64 (a1:Nat),.int .i64 (a2:Nat)] x):=zzH (by subst hx;exact⟨rfl,zd5 hn1,zd5 hn2⟩);clear hx hn1 hn2;obtain⟨ao,cap0,hv,-⟩:=HA2.sl;subst hv;obtain⟨q0,q1,q2,q3,q4,q5,q6,q7,q8,q9,z0,z1,z2,z3,z4,z5,z6,z7,z8,z9⟩:=zbO S2.y;obtain⟨i0,hi,hz0,hz1,hz2⟩:=info_parts zjj;have hYB:=S2.hB;have hYl:=zc S2.y;obtain⟨xs,ho,hR⟩:=(HA2.below ((zzR _ _).alloc (zzL _) (.cells #[.int .i64 (a1:Nat),.int .i64 (a2:Nat)] 94))).own;have HR9:=zzH hR;have hba:=(zzR v6.heap.size v6).alloc (zzL _) (.cells #[.int .i64 (a1:Nat),.int .i64 (a2:Nat)] 94);have hsz:(v6.alloc (.cells #[.int .i64 (a1:Nat),.int .i64 (a2:Nat)] 94)).heap.size=v6.heap.size+1:=by simp
     have HS3:=zzH (S2.below hba);have HO3:=zzH (And.intro (HO2.out.1.below hba) (HO2.out.2.below hba));have hBs:=S2.hBw;have HHA:=zzH HA2;have HGW:=zzH hgw;have HSZ:=zzH hsz;clear hR hba HA2 HO2 S2 hgw hsz;go_wp2_with (at_builtin;refine wpList_append_lies _ rfl (.tmp 97) (.tmp 101) 61 rfl B 94 i0 _ 2 16 Tryz.underlying61 hi hz0 hz1 hz2 rfl (by decide) _ ts.length xs rfl ho ⟨v6.heap.size,0,none⟩ 1 1 (#[.int .i64 (a1:Nat),.int .i64 (a2:Nat)]).toList rfl rfl (World.news_of_block (heap_alloc_new _ _)) (by simp [Value.oneCell']) (by decide) (by unfold maxLen;omega) (by omega) (by simp;omega) _ rfl ?_;intro g cap w3 ho3 hg3 hat hlt3;have hown:=zfL HHA.out;have HS4:=zzH (HS3.out.app hg3 (fun k e=>(hown k e).1));have hYl3:=zc HS4.out.y;clear q0 q1 q2 q3 q4 q5 q6 q7 q8 q9 z0 z1 z2 z3 z4 z5 z6 z7 z8 z9;obtain⟨q0,q1,q2,q3,q4,q5,q6,q7,q8,q9,z0,z1,z2,z3,z4,z5,z6,z7,z8,z9⟩:=zbO HS4.out.y)
     have hatt: ∀k,(Value.slice (some ⟨g,0,none⟩) (ts.length+1) cap).ownBlock=some k->(Value.slice ao ts.length cap0).ownBlock=some k∨(v6.alloc (.cells #[.int .i64 (a1:Nat),.int .i64 (a2:Nat)] 94)).heap.size<=k:=fun k e=>by
      exact zz136
     have HACC:=zzH (AccG.app (E:=(Way.pure zcR)) (w0:=v6) (fun k e=>(hown k e).2) HR9.out (Way.below _ ((zzR _ _).alloc (zzL _) _) HVAL.out) rfl hBs hg3 hatt ho3);have HO4:=zzH (And.intro (HO3.out.1.app hg3 hatt) (HO3.out.2.app hg3 hatt));have HLL:Hid (σ2.bad=false->(ts++ [x]).length+σ2.l.length<=68719476736):=zzH (fun h=>by have:=HLE.out h;rw [zzq1];simp;omega);go_roundw
     case rel=>exact⟨k+1,σ2,ts++ [x],.slice (some ⟨g,0,none⟩) (ts.length+1) cap,vs,vg,by go_num,HD,by omega,HLL,zzH (HS4.out.put (OffB.set Y _ 8 _) ((zzR _ _).setCell (p:=⟨Y,8,none⟩) (zzL _) _) (zzS _ _ 8 _ _ _ HS4.out.y)),zzH (HACC.out.grown (zG w3 Y 8 _) hYB),zzH ⟨HO4.out.1.off (OffB.set Y _ 8 _) hYB,HO4.out.2.off (OffB.set Y _ 8 _) hYB⟩,zzH (fun h=>absurd h (by simp))⟩
     case measure=>simp [intOf];omega
 case rest=>
  clear HD HS;obtain⟨cs,σ,HD,HS⟩:=hcut;obtain⟨ha,hb,hc,hd,he,hf,hg,hh⟩:=HS.out.rowc;clear ha hb hc hd he hg hh;obtain⟨qa,hqa⟩: ∃q,rr.f=q:=⟨_,rfl⟩;rw [hqa]at hf;have HA:=zzH hqa;clear hqa;go_upto_if 105 with fail;clear hf;go_cut [] (fun wx=> ∃(gs:List RSeg) (σ2:QS),Hid (zc9 σ0=qi7 rr op d ss n nm cs gs σ2)/\Hid (IQ w r σ2 Y R B rr op d ss 0 n 0 nm cs gs wx))
  case first=>
   unfold qi6 at HD;rw [HA.out]at HD
   cases qa with
   |false=>
    exact zz137
   |true=>
    rw [zg2]at HD;obtain⟨vs,vc,vg,S,ls,lc,lg⟩:=HS.out;have H:=zbE r σ _ S.rd;have hn:=zcf σ;have hln:=zzY (zdO σ) S.rd.len;unfold zbz at H;generalize(zv σ).1=n0 at *;generalize(zv σ).2=σ2 at *;go_wp2_with (go_at_call 47;refine H.mono ?_;rintro e v5 ⟨rfl,hr5,hg5⟩);have S2:=S.call hr5 hg5;have ls2:=ls.grown hg5 S.hrB;have lc2:=lc.grown hg5 S.hrB;have lg2:=lg.grown hg5 S.hrB;clear H ls lc lg hr5 hg5 HS S;go_loopw [14] (fun iv wr=> ∃(k:Nat) (σ:QS) (ts:List RSeg) (v vs vc:Value),iv= .int .i64 k/\Hid (zc9 σ0=onQ ziy (fun gs=>qi7 rr op d ss n nm cs gs) ts (n0-k) σ)/\k<=n0/\Hid (σ.bad=false->ts.length+σ.l.length<=68719476736)/\Hid (IB 64 #[.int .i64 0,.int .i64 0,.int .i64 0,.slice none 0 0,.int .i64 0,.int .i64 0,.int .i64 0,.string ⟨#[]⟩,.slice none 0 0,.slice none 0 0] w r σ w.heap.size Y R B (.cells rr.val 133 (0,0)) #[.int .i64 op,.int .i64 d.kind,.int .i64 d.n,vs,.int .i64 0,.int .i64 n,.int .i64 0,.string nm,vc,v] wr)/\Hid (AccG 98 6 (Way.pure zdk) B v ts wr)/\Hid (LN wr B 2 (Way.pure zdj) v.ownBlock vs ss/\LN wr B 2 (Way.pure zcR) v.ownBlock vc cs)/\Hid (ts= []->v= .slice none 0 0)) (fun iv _=>n0-(intOf iv).toNat)
    case atStart=>
     have e0:=lg2.2 rfl;subst e0;exact⟨0,σ2,[],.slice none 0 0,vs,vc,rfl,HD,zzZ _,zzH (fun _=>by simpa using hln),zzH S2,zzH (AccG.nil _),zzH ⟨ls2,lc2⟩,zzH (fun _=>rfl)⟩
    case round=>
     obtain⟨k,σ,ts,v,vs,vc,rfl,HD,hk,HL,HB,HA,HO,HN⟩:=hrel;have S:=HB.out;obtain⟨s2,hs2⟩:=S.rd.row;obtain⟨c0,c1,f0,f1⟩:=zb4 hs2;clear hs2
     cases hb:σ.bad with
     |true=>
      rw [hb]at c1;have HX:=zzH (HD.out.trans (zfT _ _ _ _ _ hb));clear HD HL;by_cases hlt:k<n0
      ·have d1:decide (k<n0)=true:=zzT hlt
       exact zz135
      ·have d1:decide (k<n0)=false:=zzD hlt
       exact zz135
     |false=>
      rw [hb]at c1;by_cases hlt:k<n0
      case neg=>
       have e0:n0-k=0:=by omega
       rw [e0]at HD;have HX:=zzH (HD.out.trans (ze5 _ _ _ _));have d1:decide (k<n0)=false:=zzD hlt;clear HD HL e0;exact zz135
      have e1:n0-k=(n0-(k+1))+1:=by omega
      rw [e1,zfb _ _ _ _ _ hb]at HD;clear e1;have d1:decide (k<n0)=true:=zzT hlt;have hlen:=HL.out hb;have hrB:=S.hrB;clear HL;have HLE:=zzH (fun h=>zfX zla zlf σ hb h);rw [show(ziy σ).2=⟨(zv (zcu (zcu (zv σ).2).2).2).2.l,(zv (zcu (zcu (zv σ).2).2).2).2.bad|| !decide ((zv (zcu (zcu (zv σ).2).2).2).1<=1)⟩from rfl]at HD HLE;rw [show(ziy σ).1=⟨((zv σ).1:Int),(zcu (zv σ).2).1,(zcu (zcu (zv σ).2).2).1,decide ((zv (zcu (zcu (zv σ).2).2).2).1=1)⟩from rfl]at HD;have H:=zbE r σ _ S.rd;have hn1:=zcf σ;unfold zbz at H;generalize(zv σ).1=a1 at *;generalize(zv σ).2=σa at *;go_upto_region 31 with(go_at_call 47;refine H.mono ?_;rintro e v1 ⟨rfl,hr1,hg1⟩);have hb5:=(zzR v1.heap.size v1).alloc (zzL _) (.cells #[.int .i64 (a1:Nat),.int .i64 0,.int .i64 0,.int .i64 0,.int .i64 0,.bool false] 98);have hbox:=heap_alloc_new v1 (.cells #[.int .i64 (a1:Nat),.int .i64 0,.int .i64 0,.int .i64 0,.int .i64 0,.bool false] 98);have hgw:=zC hg1 (hb5.mono hg1.size);have hrd:=hr1.below hb5;have hbw:=hg1.size;clear hb5 hg1 hr1 H c0 c1 f0 f1;generalize v1.alloc _=w1 at *;generalize v1.heap.size=bx at *;have hrr:=S.rd.lt;have hrx:r≠bx:=by omega
      have H:=zgu r σa _ hrd;have hi1:=zhw σa;unfold zbz at H;generalize(zcu σa).1=x1 at *;generalize(zcu σa).2=σb at *;go_upto_region 32 with(go_at_call 72;refine H.mono ?_;rintro e v2 ⟨rfl,hr2,hg2⟩;have hbox2:=zbX hg2 hrr hbw hbox;obtain⟨s0,s1,s2,s3,s4,s5,y0,y1,y2,y3,y4,y5⟩:=zfD hbox2);have hbb:=((zzR bx v2).setCell (p:=⟨bx,1,none⟩) (zzL _) (.int .i64 x1.kind)).setCell (p:=⟨bx,2,none⟩) (zzL _) (.int .i64 x1.n);have hgw2:=zC (zh hgw hg2) (hbb.mono hbw);have hbox3:=zzS _ _ 2 _ _ (.int .i64 x1.n) (zzS _ _ 1 _ _ (.int .i64 x1.kind) hbox2);have hrd2:=(hr2.off (OffB.set bx _ 1 (.int .i64 x1.kind)) hrx).off (OffB.set bx _ 2 (.int .i64 x1.n)) hrx;clear H hrd hgw hbox hbox2 hbb hg2 hr2 s0 s1 s2 s3 s4 s5 y0 y1 y2 y3 y4 y5;have hrd:=hrd2;have hgw:=hgw2;have hbox:(World.heap _)[bx]?=some (.cells #[.int .i64 (a1:Nat),.int .i64 x1.kind,.int .i64 x1.n,.int .i64 0,.int .i64 0,.bool false] 98 (0,0)):=hbox3
      clear hrd2 hgw2 hbox3;generalize World.setCell _ _ _=w2 at *;have H:=zgu r σb _ hrd;have hi2:=zhw σb;unfold zbz at H;generalize(zcu σb).1=x2 at *;generalize(zcu σb).2=σc at *;go_upto_region 33 with(go_at_call 72;refine H.mono ?_;rintro e v2 ⟨rfl,hr2,hg2⟩;have hbox2:=zbX hg2 hrr hbw hbox;obtain⟨s0,s1,s2,s3,s4,s5,y0,y1,y2,y3,y4,y5⟩:=zfD hbox2);have hbb:=((zzR bx v2).setCell (p:=⟨bx,3,none⟩) (zzL _) (.int .i64 x2.kind)).setCell (p:=⟨bx,4,none⟩) (zzL _) (.int .i64 x2.n);have hgw2:=zC (zh hgw hg2) (hbb.mono hbw);have hbox3:=zzS _ _ 4 _ _ (.int .i64 x2.n) (zzS _ _ 3 _ _ (.int .i64 x2.kind) hbox2);have hrd2:=(hr2.off (OffB.set bx _ 3 (.int .i64 x2.kind)) hrx).off (OffB.set bx _ 4 (.int .i64 x2.n)) hrx;clear H hrd hgw hbox hbox2 hbb hg2 hr2 s0 s1 s2 s3 s4 s5 y0 y1 y2 y3 y4 y5;have hrd:=hrd2;have hgw:=hgw2;have hbox:(World.heap _)[bx]?=some (.cells #[.int .i64 (a1:Nat),.int .i64 x1.kind,.int .i64 x1.n,.int .i64 x2.kind,.int .i64 x2.n,.bool false] 98 (0,0)):=hbox3
      clear hrd2 hgw2 hbox3;generalize World.setCell _ _ _=w2 at *;have H:=zbE r σc _ hrd;unfold zbz at H;generalize(zv σc).1=a3 at *;generalize(zv σc).2=σd at *;obtain⟨lb,hlb⟩: ∃lb,decide (a3=1)=lb:=⟨_,rfl⟩;have hlb2:((a3:Int)==1)=lb:=by rw [<-hlb];by_cases e:a3=1<;>simp [e];omega
      rw [hlb]at HD;go_upto_region 35 with(go_at_call 47;refine H.mono ?_;rintro e v2 ⟨rfl,hr2,hg2⟩;have hbox2:=zbX hg2 hrr hbw hbox;obtain⟨s0,s1,s2,s3,s4,s5,y0,y1,y2,y3,y4,y5⟩:=zfD hbox2);have hbb:=(zzR bx v2).setCell (p:=⟨bx,5,none⟩) (zzL _) (.bool lb);have hgw2:=zC (zh hgw hg2) (hbb.mono hbw);have hbox3:=zzS _ _ 5 _ _ (.bool lb) hbox2;have hrd2:=hr2.off (OffB.set bx _ 5 (.bool lb)) hrx;clear H hrd hgw hbox hbox2 hbb hg2 hr2 s0 s1 s2 s3 s4 s5 y0 y1 y2 y3 y4 y5 hlb2;generalize World.setCell _ _ _=w5 at *;obtain⟨s3,hs3⟩:=hrd2.row;obtain⟨c0,c1,f0,f1⟩:=zb4 hs3;clear hs3;generalize hzb:σd.bad=zb at *;obtain⟨ob,hob⟩: ∃ob,decide (a3<=1)=ob:=⟨_,rfl⟩;rw [hob]at HD HLE;have hG5:=fun b=>zh hgw2 (zG w5 r 1 (.bool b))
      have hbox5:=fun b=>(show(w5.setCell ⟨r,1,none⟩ (.bool b)).heap[bx]?=some (.cells #[.int .i64 (a1:Nat),.int .i64 x1.kind,.int .i64 x1.n,.int .i64 x2.kind,.int .i64 x2.n,.bool lb] 98 (0,0))from(zzq7 _ _ _ _ (by simpa using fun e=>hrx e.symm)).trans hbox3)
      have hR5:=fun b=>hrd2.bad b
      have HX5:=zzH (fun b=>And.intro (hG5 b) (And.intro (hbox5 b) (hR5 b)));have HOB:=zzH hob;clear hG5 hbox5 hR5 hob hzb hgw2 hbox3 hrd2;go_cut [] (fun wx=>Hid (wr.grownBy wx (some r)/\wx.heap[bx]?=some (.cells #[.int .i64 (a1:Nat),.int .i64 x1.kind,.int .i64 x1.n,.int .i64 x2.kind,.int .i64 x2.n,.bool lb] 98 (0,0))/\RdQ r ⟨σd.l,zb|| !ob⟩ wx))
      case first=>
       exact zz133
      case rest=>
       clear HX5;have HX5:=hcut;clear hcut HOB c0 c1 f0 f1;obtain⟨v6,hv6⟩: ∃v,v=wc:=⟨_,rfl⟩;subst hv6;generalize hσ2:(⟨σd.l,zb|| !ob⟩:QS)=σ2 at *;have HLE2:Hid (σ2.bad=false->σ2.l.length<σ.l.length):=zzH (fun h=>by rw [<-hσ2]at h ⊢;exact HLE.out h);clear HLE;have HLE:=HLE2;clear HLE2 hσ2;go_upto_region 36 with fail;obtain⟨hgw,hbox,hrd⟩:=HX5.out;have S2:=S.call hrd hgw;have HA2:=HA.out.grown hgw hrB;have HO2:=zzH (And.intro (HO.out.1.grown hgw hrB) (HO.out.2.grown hgw hrB));obtain⟨b0,b1,b2,b3,b4,b5,-⟩:=zfD hbox;have hbs:=zc hbox;clear S hrd hbox HX5;have HVAL:Hid ((Way.pure zdk).on v6 (v6.heap.size<= ·) [.int .i64 (a1:Nat),.int .i64 x1.kind,.int .i64 x1.n,.int .i64 x2.kind,.int .i64 x2.n,.bool lb] ⟨(a1:Nat),x1,x2,lb⟩):=zzH ⟨rfl,zd5 hn1,hi1.1,hi1.2,hi2.1,hi2.2⟩;obtain⟨ao,cap0,hv,-⟩:=HA2.sl;subst hv;obtain⟨q0,q1,q2,q3,q4,q5,q6,q7,q8,q9,z0,z1,z2,z3,z4,z5,z6,z7,z8,z9⟩:=zbO S2.y;obtain⟨i0,hi,hz0,hz1,hz2⟩:=info_parts zjF;have hYB:=S2.hB;have hYl:=zc S2.y;obtain⟨xs,ho,hR⟩:=(HA2.below ((zzR _ _).alloc (zzL _) (.cells #[.int .i64 (a1:Nat),.int .i64 x1.kind,.int .i64 x1.n,.int .i64 x2.kind,.int .i64 x2.n,.bool lb] 98))).own;have HR9:=zzH hR;have hba:=(zzR v6.heap.size v6).alloc (zzL _) (.cells #[.int .i64 (a1:Nat),.int .i64 x1.kind,.int .i64 x1.n,.int .i64 x2.kind,.int .i64 x2.n,.bool lb] 98);have hsz:(v6.alloc (.cells #[.int .i64 (a1:Nat),.int .i64 x1.kind,.int .i64 x1.n,.int .i64 x2.kind,.int .i64 x2.n,.bool lb] 98)).heap.size=v6.heap.size+1:=by simp
       have HS3:=zzH (S2.below hba);have HO3:=zzH (And.intro (HO2.out.1.below hba) (HO2.out.2.below hba));have hBs:=S2.hBw;have HHA:=zzH HA2;have HGW:=zzH hgw;have HSZ:=zzH hsz;clear hR hba HA2 HO2 S2 hgw hsz;go_wp2_with (at_builtin;refine wpList_append_lies _ rfl (.tmp 146) (.tmp 148) 62 rfl B 98 i0 _ 6 48 Tryz.underlying62 hi hz0 hz1 hz2 rfl (by decide) _ ts.length xs rfl ho ⟨v6.heap.size,0,none⟩ 1 1 (#[.int .i64 (a1:Nat),.int .i64 x1.kind,.int .i64 x1.n,.int .i64 x2.kind,.int .i64 x2.n,.bool lb]).toList rfl rfl (World.news_of_block (heap_alloc_new _ _)) (by simp [Value.oneCell']) (by decide) (by unfold maxLen;omega) (by omega) (by simp;omega) _ rfl ?_;intro g cap w3 ho3 hg3 hat hlt3;have hown:=zfL HHA.out;have HS4:=zzH (HS3.out.app hg3 (fun k e=>(hown k e).1));have hYl3:=zc HS4.out.y;clear q0 q1 q2 q3 q4 q5 q6 q7 q8 q9 z0 z1 z2 z3 z4 z5 z6 z7 z8 z9;obtain⟨q0,q1,q2,q3,q4,q5,q6,q7,q8,q9,z0,z1,z2,z3,z4,z5,z6,z7,z8,z9⟩:=zbO HS4.out.y)
       have hatt: ∀k,(Value.slice (some ⟨g,0,none⟩) (ts.length+1) cap).ownBlock=some k->(Value.slice ao ts.length cap0).ownBlock=some k∨(v6.alloc (.cells #[.int .i64 (a1:Nat),.int .i64 x1.kind,.int .i64 x1.n,.int .i64 x2.kind,.int .i64 x2.n,.bool lb] 98)).heap.size<=k:=fun k e=>by
        exact zz136
       have HACC:=zzH (AccG.app (E:=(Way.pure zdk)) (w0:=v6) (fun k e=>(hown k e).2) HR9.out (Way.below _ ((zzR _ _).alloc (zzL _) _) HVAL.out) rfl hBs hg3 hatt ho3);have HO4:=zzH (And.intro (HO3.out.1.app hg3 hatt) (HO3.out.2.app hg3 hatt));have HLL:Hid (σ2.bad=false->(ts++ [(⟨(a1:Nat),x1,x2,lb⟩:RSeg)]).length+σ2.l.length<=68719476736):=zzH (fun h=>by have:=HLE.out h;rw [zzq1];simp;omega);go_roundw
       case rel=>exact⟨k+1,σ2,ts++ [(⟨(a1:Nat),x1,x2,lb⟩:RSeg)],.slice (some ⟨g,0,none⟩) (ts.length+1) cap,vs,vc,by go_num,HD,by omega,HLL,zzH (HS4.out.put (OffB.set Y _ 9 _) ((zzR _ _).setCell (p:=⟨Y,9,none⟩) (zzL _) _) (zzS _ _ 9 _ _ _ HS4.out.y)),zzH (HACC.out.grown (zG w3 Y 9 _) hYB),zzH ⟨HO4.out.1.off (OffB.set Y _ 9 _) hYB,HO4.out.2.off (OffB.set Y _ 9 _) hYB⟩,zzH (fun h=>absurd h (by simp))⟩
       case measure=>simp [intOf];omega
  case rest=>
   clear HD HS;obtain⟨gs,σ,HD,HS⟩:=hcut;obtain⟨ha,hb,hc,hd,he,hf,hg,hh⟩:=HS.out.rowc;clear ha hb hc hd he hf hh;obtain⟨qa,hqa⟩: ∃q,rr.g=q:=⟨_,rfl⟩;rw [hqa]at hg;have HA:=zzH hqa;clear hqa;go_upto_if 152 with fail;clear hg;go_cut [] (fun wx=> ∃(tg:Int) (σ2:QS),Hid (zc9 σ0=qi8 rr op d ss n nm cs gs tg σ2)/\Hid (IQ w r σ2 Y R B rr op d ss tg n 0 nm cs gs wx))
   case first=>
    unfold qi7 at HD;rw [HA.out]at HD
    cases qa with
    |false=>
     exact zz138
    |true=>
     rw [zfM]at HD;obtain⟨vs,vc,vg,S,ls,lc,lg⟩:=HS.out;have H:=zbE r σ _ S.rd;unfold zbz at H;rw [show(zc2 σ).1=((zv σ).1:Int)from rfl,show(zc2 σ).2=(zv σ).2 from rfl]at HD;generalize(zv σ).1=tg2 at *;generalize(zv σ).2=σ2 at *;go_wp2_with (go_at_call 47;refine H.mono ?_;rintro e v5 ⟨rfl,hr5,hg5⟩;have S2:=S.call hr5 hg5;obtain⟨q0,q1,q2,q3,q4,q5,q6,q7,q8,q9,z0,z1,z2,z3,z4,z5,z6,z7,z8,z9⟩:=zbO S2.y);clear q0 q1 q2 q3 q4 q5 q6 q7 q8 q9 z0 z1 z2 z3 z4 z5 z6 z7 z8 z9;have hY:=S2.hB;have ls2:=ls.grown hg5 S.hrB;have lc2:=lc.grown hg5 S.hrB;have lg2:=lg.grown hg5 S.hrB;go_meet
     case rel=>exact⟨((tg2:Nat):Int),σ2,HD,zzH ⟨vs,vc,vg,S2.put (OffB.set Y _ 4 _) ((zzR _ _).setCell (p:=⟨Y,4,none⟩) (zzL _) _) (zzS _ _ 4 _ _ _ S2.y),ls2.off (OffB.set Y _ 4 _) hY,lc2.off (OffB.set Y _ 4 _) hY,lg2.off (OffB.set Y _ 4 _) hY⟩⟩
   case rest=>
    clear HD HS;obtain⟨tg,σ,HD,HS⟩:=hcut;obtain⟨ha,hb,hc,hd,he,hf,hg,hh⟩:=HS.out.rowc;clear ha hb hc hd he hf hg;obtain⟨qa,hqa⟩: ∃q,rr.h=q:=⟨_,rfl⟩;rw [hqa]at hh;have HA:=zzH hqa;clear hqa;go_upto_if 157 with fail;clear hh;go_cut [] (fun wx=> ∃(lv:Int) (σ2:QS),Hid (zc9 σ0=((⟨op,d,ss,tg,n,lv,nm,cs,gs⟩:RIns),σ2))/\Hid (IQ w r σ2 Y R B rr op d ss tg n lv nm cs gs wx))
    case first=>
     unfold qi8 at HD;rw [HA.out]at HD
     cases qa with
     |false=>
      exact zz138
     |true=>
      rw [zfM]at HD;obtain⟨vs,vc,vg,S,ls,lc,lg⟩:=HS.out;have H:=zbE r σ _ S.rd;unfold zbz at H;rw [show(zc2 σ).1=((zv σ).1:Int)from rfl,show(zc2 σ).2=(zv σ).2 from rfl]at HD;generalize(zv σ).1=lv2 at *;generalize(zv σ).2=σ2 at *;go_wp2_with (go_at_call 47;refine H.mono ?_;rintro e v5 ⟨rfl,hr5,hg5⟩;have S2:=S.call hr5 hg5;obtain⟨q0,q1,q2,q3,q4,q5,q6,q7,q8,q9,z0,z1,z2,z3,z4,z5,z6,z7,z8,z9⟩:=zbO S2.y);clear q0 q1 q2 q3 q4 q5 q6 q7 q8 q9 z0 z1 z2 z3 z4 z5 z6 z7 z8 z9;have hY:=S2.hB;have ls2:=ls.grown hg5 S.hrB;have lc2:=lc.grown hg5 S.hrB;have lg2:=lg.grown hg5 S.hrB;go_meet
      case rel=>exact⟨((lv2:Nat):Int),σ2,HD,zzH ⟨vs,vc,vg,S2.put (OffB.set Y _ 6 _) ((zzR _ _).setCell (p:=⟨Y,6,none⟩) (zzL _) _) (zzS _ _ 6 _ _ _ S2.y),ls2.off (OffB.set Y _ 6 _) hY,lc2.off (OffB.set Y _ 6 _) hY,lg2.off (OffB.set Y _ 6 _) hY⟩⟩
    case rest=>
     clear HD HS;obtain⟨lv,σ,HD,HS⟩:=hcut;obtain⟨vs,vc,vg,S,ls,lc,lg⟩:=HS.out;obtain⟨so,sc,rfl,s1⟩:=ls.any;obtain⟨co,cc,rfl,s2⟩:=lc.any;obtain⟨go,gc,rfl,s3⟩:=lg.any;have hXB:w.heap.size<B:=by have:=S.hY;have:=S.hB;omega
     have HC:=zzH (And.intro s1 (And.intro s2 (And.intro s3 hXB)));have HY:=zzH S.y;have HX:=zzH S.x;have HSS:=zzH S;clear s1 s2 s3 hXB S HS ls lc lg;go_upto_region 41 with fail;rename_i K hK;refine wp_region_list ?_;refine wpList_load_row rfl 64 (.tmp 3) rfl Y rfl 64 _ _ _ HY.out Tryz.underlying64 rfl (by kernel_rfl) ?_;refine wpList_store_row rfl 64 (.tmp 2) (.tmp 161) rfl w.heap.size #[.int .i64 op,.int .i64 d.kind,.int .i64 d.n,.slice so ss.length sc,.int .i64 tg,.int .i64 n,.int .i64 lv,.string nm,.slice co cs.length cc,.slice go gs.length gc] rfl rfl 64 _ HX.out (by kernel_rfl) rfl (by simp [Value.oneCell']) ?_;exact zz120
theorem zqg (r:Nat) (σ0:QS) (w:World) (h:RdQ r σ0 w):
  Calls Tryz.prog 49 #[.pointer (some ⟨r,0,none⟩)] w (zgA r w (zc9 σ0)):=by
 have hD:=zrA σ0;have HN:=zbE r σ0 _ (h.below ((zzR _ _).alloc (zzL _) (.cells #[.int .i64 0,.int .i64 0,.int .i64 0,.slice none 0 0,.int .i64 0,.int .i64 0,.int .i64 0,.string ⟨#[]⟩,.slice none 0 0,.slice none 0 0] 64)));have hn:=zcf σ0;have hrw:=h.lt;generalize hQ:zgA r w (zc9 σ0)=Q at *;have HQ:=zzH hQ;clear hQ;unfold zbz at HN;generalize(zv σ0).1=a at *;generalize(zv σ0).2=σ1 at *;have hba:=(zzR w.heap.size w).alloc (zzL _) (.cells #[.int .i64 0,.int .i64 0,.int .i64 0,.slice none 0 0,.int .i64 0,.int .i64 0,.int .i64 0,.string ⟨#[]⟩,.slice none 0 0,.slice none 0 0] 64);have hx0:=heap_alloc_new w (.cells #[.int .i64 0,.int .i64 0,.int .i64 0,.slice none 0 0,.int .i64 0,.int .i64 0,.int .i64 0,.string ⟨#[]⟩,.slice none 0 0,.slice none 0 0] 64);have hgw:=zbf hba (some r);clear hba;have HD:=zzH hD;clear hD;go_in;go_upto_region 1 with fail;generalize w.alloc _=w0 at *;go_upto_region 2 with(go_at_call 47;refine HN.mono ?_;rintro e v1 ⟨rfl,hr1,hg1⟩;have hx1:=zbX hg1 hrw (zzL _) hx0;have hgw1:=zh hgw hg1;clear hx0 hgw hg1);have hba:=(zzR v1.heap.size v1).alloc (zzL _) (.cells #[.int .i64 (a:Int),.int .i64 0,.int .i64 0,.slice none 0 0,.int .i64 0,.int .i64 0,.int .i64 0,.string ⟨#[]⟩,.slice none 0 0,.slice none 0 0] 64);have hy:=heap_alloc_new v1 (.cells #[.int .i64 (a:Int),.int .i64 0,.int .i64 0,.slice none 0 0,.int .i64 0,.int .i64 0,.int .i64 0,.string ⟨#[]⟩,.slice none 0 0,.slice none 0 0] 64);have hlx:=zc hx1;have hx:=(hba.block _ hlx).trans hx1;have hrd:=hr1.below hba;have hgr:=zC hgw1 (hba.mono hgw1.size);have hle:=hgw1.size;clear hba hgw1 hx1 hr1 HN;generalize v1.alloc _=v2 at *;generalize v1.heap.size=Y at *;have hyl:=zc hy;have cy:v2.cell? ⟨Y,0,none⟩=some (.int .i64 (a:Int)):=zzq2 v2 Y 0 _ _ _ hy;have hop:I64 (a:Int):=zd5 hn;generalize(a:Int)=op at *;have hro:=zgH op v2;generalize zd3 op=rr at *;unfold RRow.val at hro;obtain⟨ok,hok⟩: ∃ok,zc5 op=ok:=⟨_,rfl⟩;rw [hok]at hro HD;clear hok hop hn;go_upto_region 3 with(go_at_call 71;refine hro.mono ?_;rintro e v3 ⟨rfl,hb3⟩);have hbr:=(zzR v3.heap.size v3).alloc (zzL _) (.cells #[.bool rr.a,.bool rr.b,.bool rr.c,.bool rr.d,.bool rr.e,.bool rr.f,.bool rr.g,.bool rr.h,.int .i64 rr.lo,.int .i64 rr.hi] 133);have hrr:=heap_alloc_new v3 (.cells #[.bool rr.a,.bool rr.b,.bool rr.c,.bool rr.d,.bool rr.e,.bool rr.f,.bool rr.g,.bool rr.h,.int .i64 rr.lo,.int .i64 rr.hi] 133);have hsz:(v3.alloc (.cells #[.bool rr.a,.bool rr.b,.bool rr.c,.bool rr.d,.bool rr.e,.bool rr.f,.bool rr.g,.bool rr.h,.int .i64 rr.lo,.int .i64 rr.hi] 133)).heap.size=v3.heap.size+1:=by simp
 have hbb:=hb3.trans (hbr.mono hb3.size)
 have S:IB 64 #[.int .i64 0,.int .i64 0,.int .i64 0,.slice none 0 0,.int .i64 0,.int .i64 0,.int .i64 0,.string ⟨#[]⟩,.slice none 0 0,.slice none 0 0] w r σ1 w.heap.size Y v3.heap.size (v3.heap.size+1) (.cells #[.bool rr.a,.bool rr.b,.bool rr.c,.bool rr.d,.bool rr.e,.bool rr.f,.bool rr.g,.bool rr.h,.int .i64 rr.lo,.int .i64 rr.hi] 133 (0,0)) #[.int .i64 op,.int .i64 0,.int .i64 0,.slice none 0 0,.int .i64 0,.int .i64 0,.int .i64 0,.string ⟨#[]⟩,.slice none 0 0,.slice none 0 0] (v3.alloc (.cells #[.bool rr.a,.bool rr.b,.bool rr.c,.bool rr.d,.bool rr.e,.bool rr.f,.bool rr.g,.bool rr.h,.int .i64 rr.lo,.int .i64 rr.hi] 133)):=
  ⟨hrd.below hbb,zC hgr (hbb.mono hgr.size),(hbb.block _ (zc hx)).trans hx,(hbb.block _ hyl).trans hy,hrr,hrw,rfl,hlx,⟨zzY hle (zzY (Nat.le_of_lt hyl) hb3.size),Nat.lt_succ_self _,by have:=zzW hyl hb3.size;omega⟩,Nat.lt_succ_of_lt (zzW hyl hb3.size),by rw [hsz];exact zzL _⟩
 clear hbr hrr hsz hbb hro hb3 hx hrd hgr hy hyl cy hlx hle;generalize v3.alloc _=v4 at *;generalize v3.heap.size+1=B at *;generalize v3.heap.size=R at *;obtain⟨s1,hs1⟩:=S.rd.row;obtain⟨c0,c1,f0,f1⟩:=zb4 hs1;have HS0:=zzH S;clear S hs1;generalize hzb:σ1.bad=zb at *;have HZB:=zzH hzb;clear hzb;go_cut [] (fun wx=>Hid (IQ w r ⟨σ1.l,zb|| !ok⟩ Y R B rr op ⟨0,0⟩ [] 0 0 0 ⟨#[]⟩ [] [] wx))
 case first=>
  have HF:Hid (∀b,b=(zb|| !ok)->IQ w r ⟨σ1.l,zb|| !ok⟩ Y R B rr op ⟨0,0⟩ [] 0 0 0 ⟨#[]⟩ [] [] (v4.setCell ⟨r,1,none⟩ (.bool b))):=zzH (fun b e=>by
   subst e;exact⟨.slice none 0 0,.slice none 0 0,.slice none 0 0,HS0.out.setBad _,LN.nil,LN.nil,LN.nil⟩)
  cases zb with
  |true=>
   go_wp2_with fail
   all_goals
    go_meet
    case rel=>exact zzH (HF.out _ rfl)
  |false=>
   cases ok with
   |true=>
    go_wp2_with fail;go_meet
    case rel=>exact zzH (HF.out _ rfl)
   |false=>
    go_wp2_with fail;go_meet
    case rel=>exact zzH (HF.out _ rfl)
 case rest=>
  have HS:=hcut;clear hcut HS0 c0 c1 f0 f1 HZB;obtain⟨σ,hσ⟩: ∃σ:QS,σ=⟨σ1.l,zb|| !ok⟩:=⟨_,rfl⟩;rw [<-hσ]at HS HD;clear hσ;obtain⟨ha,hb,hc,hd,he,hf,hg,hh⟩:=HS.out.rowc;clear hb hc hd he hf hg hh;obtain⟨qa,hqa⟩: ∃q,rr.a=q:=⟨_,rfl⟩;rw [hqa]at ha;have HA:=zzH hqa;clear hqa;go_upto_if 38 with fail;clear ha;go_cut [] (fun wx=> ∃(d:RArg) (σ2:QS),Hid (zc9 σ0=qi2 rr op d σ2)/\Hid (IQ w r σ2 Y R B rr op d ([]) 0 0 0 (⟨#[]⟩) ([]) ([]) wx))
  case first=>
   unfold qi1 at HD;rw [HA.out]at HD
   cases qa with
   |false=>
    rw [zhd]at HD;go_wp2_with fail;go_meet
    case rel=>exact⟨⟨0,0⟩,_,HD,HS⟩
   |true=>
    rw [zfM]at HD;obtain⟨vs,vc,vg,S,ls,lc,lg⟩:=HS.out;have H:=zgu r σ _ S.rd;unfold zbz at H;generalize(zcu σ).1=d2 at *;generalize(zcu σ).2=σ2 at *;go_wp2_with (go_at_call 72;refine H.mono ?_;rintro e v5 ⟨rfl,hr5,hg5⟩;have S2:=S.call hr5 hg5;obtain⟨q0,q1,q2,q3,q4,q5,q6,q7,q8,q9,z0,z1,z2,z3,z4,z5,z6,z7,z8,z9⟩:=zbO S2.y);clear q0 q1 q2 q3 q4 q5 q6 q7 q8 q9 z0 z1 z2 z3 z4 z5 z6 z7 z8 z9;have hY:=S2.hB;have ls2:=ls.grown hg5 S.hrB;have lc2:=lc.grown hg5 S.hrB;have lg2:=lg.grown hg5 S.hrB;go_meet
    case rel=>exact⟨d2,σ2,HD,zzH ⟨vs,vc,vg,S2.put ((OffB.set Y _ 1 _).trans (OffB.set Y _ 2 _)) (((zzR _ _).setCell (p:=⟨Y,1,none⟩) (zzL _) _).setCell (p:=⟨Y,2,none⟩) (zzL _) _) (zzS _ _ 2 _ _ _ (zzS _ _ 1 _ _ _ S2.y)),ls2.off ((OffB.set Y _ 1 _).trans (OffB.set Y _ 2 _)) hY,lc2.off ((OffB.set Y _ 1 _).trans (OffB.set Y _ 2 _)) hY,lg2.off ((OffB.set Y _ 1 _).trans (OffB.set Y _ 2 _)) hY⟩⟩
  case rest=>
   clear HD HS;obtain⟨d,σ,HD,HS⟩:=hcut;obtain⟨ha,hb,hc,hd,he,hf,hg,hh⟩:=HS.out.rowc;clear ha hc hd he hf hg hh;obtain⟨qa,hqa⟩: ∃q,rr.b=q:=⟨_,rfl⟩;rw [hqa]at hb;have HA:=zzH hqa;clear hqa;go_upto_if 43 with fail;clear hb;go_cut [] (fun wx=> ∃(ss:List RArg) (σ2:QS),Hid (zc9 σ0=qi3 rr op d ss σ2)/\Hid (IQ w r σ2 Y R B rr op d ss 0 0 0 (⟨#[]⟩) ([]) ([]) wx))
   case first=>
    unfold qi2 at HD;rw [HA.out]at HD
    cases qa with
    |false=>
     exact zz137
    |true=>
     rw [zg2]at HD;obtain⟨vs,vc,vg,S,ls,lc,lg⟩:=HS.out;have H:=zbE r σ _ S.rd;have hn:=zcf σ;have hln:=zzY (zdO σ) S.rd.len;unfold zbz at H;generalize(zv σ).1=n0 at *;generalize(zv σ).2=σ2 at *;go_wp2_with (go_at_call 47;refine H.mono ?_;rintro e v5 ⟨rfl,hr5,hg5⟩);have S2:=S.call hr5 hg5;have ls2:=ls.grown hg5 S.hrB;have lc2:=lc.grown hg5 S.hrB;have lg2:=lg.grown hg5 S.hrB;clear H ls lc lg hr5 hg5 HS S;go_loopw [7] (fun iv wr=> ∃(k:Nat) (σ:QS) (ts:List RArg) (v vc vg:Value),iv= .int .i64 k/\Hid (zc9 σ0=onQ zcu (fun ss=>qi3 rr op d ss) ts (n0-k) σ)/\k<=n0/\Hid (σ.bad=false->ts.length+σ.l.length<=68719476736)/\Hid (IB 64 #[.int .i64 0,.int .i64 0,.int .i64 0,.slice none 0 0,.int .i64 0,.int .i64 0,.int .i64 0,.string ⟨#[]⟩,.slice none 0 0,.slice none 0 0] w r σ w.heap.size Y R B (.cells rr.val 133 (0,0)) #[.int .i64 op,.int .i64 d.kind,.int .i64 d.n,v,.int .i64 0,.int .i64 0,.int .i64 0,.string ⟨#[]⟩,vc,vg] wr)/\Hid (AccG 59 2 (Way.pure zdj) B v ts wr)/\Hid (LN wr B 2 (Way.pure zcR) v.ownBlock vc []/\LN wr B 6 (Way.pure zdk) v.ownBlock vg [])/\Hid (ts= []->v= .slice none 0 0)) (fun iv _=>n0-(intOf iv).toNat)
     case atStart=>
      have e0:=ls2.2 rfl;subst e0;exact⟨0,σ2,[],.slice none 0 0,vc,vg,rfl,HD,zzZ _,zzH (fun _=>by simpa using hln),zzH S2,zzH (AccG.nil _),zzH ⟨lc2,lg2⟩,zzH (fun _=>rfl)⟩
     case round=>
      obtain⟨k,σ,ts,v,vc,vg,rfl,HD,hk,HL,HB,HA,HO,HN⟩:=hrel;have S:=HB.out;obtain⟨s2,hs2⟩:=S.rd.row;obtain⟨c0,c1,f0,f1⟩:=zb4 hs2;clear hs2
      cases hb:σ.bad with
      |true=>
       rw [hb]at c1;have HX:=zzH (HD.out.trans (zfT _ _ _ _ _ hb));clear HD HL;by_cases hlt:k<n0
       ·have d1:decide (k<n0)=true:=zzT hlt
        exact zz139
       ·have d1:decide (k<n0)=false:=zzD hlt
        exact zz139
      |false=>
       rw [hb]at c1;by_cases hlt:k<n0
       case neg=>
        have e0:n0-k=0:=by omega
        rw [e0]at HD;have HX:=zzH (HD.out.trans (ze5 _ _ _ _));have d1:decide (k<n0)=false:=zzD hlt;clear HD HL e0;exact zz139
       have e1:n0-k=(n0-(k+1))+1:=by omega
       rw [e1,zfb _ _ _ _ _ hb]at HD;clear e1;have d1:decide (k<n0)=true:=zzT hlt;have hlen:=HL.out hb;have hrB:=S.hrB;clear HL;have H:=zgu r σ _ S.rd;have hi:=zhw σ;have HLE:=zzH (fun h=>zfX zgl zlz σ hb h);unfold zbz at H;generalize(zcu σ).1=x at *;generalize(zcu σ).2=σ2 at *;go_upto_region 12 with(go_at_call 72;refine H.mono ?_;rintro e v5 ⟨rfl,hr5,hg5⟩);have hb5:=(zzR v5.heap.size v5).alloc (zzL _) (.cells #[.int .i64 x.kind,.int .i64 x.n] 59);have hbox:=heap_alloc_new v5 (.cells #[.int .i64 x.kind,.int .i64 x.n] 59);have hgw:=zC hg5 (hb5.mono hg5.size);have S2:=(S.call hr5 hg5).below hb5;have HA2:=HA.out.grown hgw hrB;have HO2:=zzH (And.intro (HO.out.1.grown hgw hrB) (HO.out.2.grown hgw hrB));have hbs:v5.heap.size<(v5.alloc (.cells #[.int .i64 x.kind,.int .i64 x.n] 59)).heap.size:=by simp
       clear hb5 hg5 hr5 H S c0 c1 f0 f1;generalize v5.alloc _=v6 at *;generalize v5.heap.size=bx at *;have b0:v6.cell? ⟨bx,0,none⟩=some (.int .i64 x.kind):=zzq2 v6 _ 0 _ _ _ hbox;have b1:v6.cell? ⟨bx,1,none⟩=some (.int .i64 x.n):=zzq2 v6 _ 1 _ _ _ hbox;clear hbox;have HVAL:Hid ((Way.pure zdj).on v6 (v6.heap.size<= ·) [.int .i64 x.kind,.int .i64 x.n] x):=zzH ⟨rfl,hi.1,hi.2⟩;clear hi;obtain⟨ao,cap0,hv,-⟩:=HA2.sl;subst hv;obtain⟨q0,q1,q2,q3,q4,q5,q6,q7,q8,q9,z0,z1,z2,z3,z4,z5,z6,z7,z8,z9⟩:=zbO S2.y;obtain⟨i0,hi,hz0,hz1,hz2⟩:=info_parts zjQ;have hYB:=S2.hB;have hYl:=zc S2.y;obtain⟨xs,ho,hR⟩:=(HA2.below ((zzR _ _).alloc (zzL _) (.cells #[.int .i64 x.kind,.int .i64 x.n] 59))).own;have HR9:=zzH hR;have hba:=(zzR v6.heap.size v6).alloc (zzL _) (.cells #[.int .i64 x.kind,.int .i64 x.n] 59);have hsz:(v6.alloc (.cells #[.int .i64 x.kind,.int .i64 x.n] 59)).heap.size=v6.heap.size+1:=by simp
       have HS3:=zzH (S2.below hba);have HO3:=zzH (And.intro (HO2.out.1.below hba) (HO2.out.2.below hba));have hBs:=S2.hBw;have HHA:=zzH HA2;have HGW:=zzH hgw;have HSZ:=zzH hsz;clear hR hba HA2 HO2 S2 hgw hsz;go_wp2_with (at_builtin;refine wpList_append_lies _ rfl (.tmp 61) (.tmp 63) 60 rfl B 59 i0 _ 2 16 Tryz.underlying60 hi hz0 hz1 hz2 rfl (by decide) _ ts.length xs rfl ho ⟨v6.heap.size,0,none⟩ 1 1 (#[.int .i64 x.kind,.int .i64 x.n]).toList rfl rfl (World.news_of_block (heap_alloc_new _ _)) (by simp [Value.oneCell']) (by decide) (by unfold maxLen;omega) (by omega) (by simp;omega) _ rfl ?_;intro g cap w3 ho3 hg3 hat hlt3;have hown:=zfL HHA.out;have HS4:=zzH (HS3.out.app hg3 (fun k e=>(hown k e).1));have hYl3:=zc HS4.out.y;clear q0 q1 q2 q3 q4 q5 q6 q7 q8 q9 z0 z1 z2 z3 z4 z5 z6 z7 z8 z9;obtain⟨q0,q1,q2,q3,q4,q5,q6,q7,q8,q9,z0,z1,z2,z3,z4,z5,z6,z7,z8,z9⟩:=zbO HS4.out.y)
       have hatt: ∀k,(Value.slice (some ⟨g,0,none⟩) (ts.length+1) cap).ownBlock=some k->(Value.slice ao ts.length cap0).ownBlock=some k∨(v6.alloc (.cells #[.int .i64 x.kind,.int .i64 x.n] 59)).heap.size<=k:=fun k e=>by
        exact zz136
       have HACC:=zzH (AccG.app (E:=(Way.pure zdj)) (w0:=v6) (fun k e=>(hown k e).2) HR9.out (Way.below _ ((zzR _ _).alloc (zzL _) _) HVAL.out) rfl hBs hg3 hatt ho3);have HO4:=zzH (And.intro (HO3.out.1.app hg3 hatt) (HO3.out.2.app hg3 hatt));have HLL:Hid (σ2.bad=false->(ts++ [x]).length+σ2.l.length<=68719476736):=zzH (fun h=>by have:=HLE.out h;rw [zzq1];simp;omega);go_roundw
       case rel=>exact⟨k+1,σ2,ts++ [x],.slice (some ⟨g,0,none⟩) (ts.length+1) cap,vc,vg,by go_num,HD,by omega,HLL,zzH (HS4.out.put (OffB.set Y _ 3 _) ((zzR _ _).setCell (p:=⟨Y,3,none⟩) (zzL _) _) (zzS _ _ 3 _ _ _ HS4.out.y)),zzH (HACC.out.grown (zG w3 Y 3 _) hYB),zzH ⟨HO4.out.1.off (OffB.set Y _ 3 _) hYB,HO4.out.2.off (OffB.set Y _ 3 _) hYB⟩,zzH (fun h=>absurd h (by simp))⟩
       case measure=>simp [intOf];omega
   case rest=>
    clear HD HS;obtain⟨ss,σ,HD,HS⟩:=hcut;obtain⟨ha,hb,hc,hd,he,hf,hg,hh⟩:=HS.out.rowc;clear ha hb hd he hf hg hh;obtain⟨qa,hqa⟩: ∃q,rr.c=q:=⟨_,rfl⟩;rw [hqa]at hc;have HA:=zzH hqa;clear hqa;go_upto_if 67 with fail;clear hc;go_cut [] (fun wx=> ∃(n:Int) (σ2:QS),Hid (zc9 σ0=qi4 rr op d ss n σ2)/\Hid (IQ w r σ2 Y R B rr op d ss 0 n 0 (⟨#[]⟩) ([]) ([]) wx))
    case first=>
     unfold qi3 at HD;rw [HA.out]at HD
     cases qa with
     |false=>
      exact zz138
     |true=>
      rw [zfM]at HD;obtain⟨vs,vc,vg,S,ls,lc,lg⟩:=HS.out;have H:=zbE r σ _ S.rd;unfold zbz at H;rw [show(zc2 σ).1=((zv σ).1:Int)from rfl,show(zc2 σ).2=(zv σ).2 from rfl]at HD;generalize(zv σ).1=n2 at *;generalize(zv σ).2=σ2 at *;go_wp2_with (go_at_call 47;refine H.mono ?_;rintro e v5 ⟨rfl,hr5,hg5⟩;have S2:=S.call hr5 hg5;obtain⟨q0,q1,q2,q3,q4,q5,q6,q7,q8,q9,z0,z1,z2,z3,z4,z5,z6,z7,z8,z9⟩:=zbO S2.y);clear q0 q1 q2 q3 q4 q5 q6 q7 q8 q9 z0 z1 z2 z3 z4 z5 z6 z7 z8 z9;have hY:=S2.hB;have ls2:=ls.grown hg5 S.hrB;have lc2:=lc.grown hg5 S.hrB;have lg2:=lg.grown hg5 S.hrB;go_meet
      case rel=>exact⟨((n2:Nat):Int),σ2,HD,zzH ⟨vs,vc,vg,S2.put (OffB.set Y _ 5 _) ((zzR _ _).setCell (p:=⟨Y,5,none⟩) (zzL _) _) (zzS _ _ 5 _ _ _ S2.y),ls2.off (OffB.set Y _ 5 _) hY,lc2.off (OffB.set Y _ 5 _) hY,lg2.off (OffB.set Y _ 5 _) hY⟩⟩
    case rest=>
     clear HD HS;obtain⟨n,σ,HD,HS⟩:=hcut;obtain⟨ha,hb,hc,hd,he,hf,hg,hh⟩:=HS.out.rowc;clear ha hb hc he hf hg hh;obtain⟨qa,hqa⟩: ∃q,rr.d=q:=⟨_,rfl⟩;rw [hqa]at hd;have HA:=zzH hqa;clear hqa;go_upto_if 72 with fail;clear hd;go_cut [] (fun wx=> ∃(nm:ByteArray) (σ2:QS),Hid (zc9 σ0=qi5 rr op d ss n nm σ2)/\Hid (IQ w r σ2 Y R B rr op d ss 0 n 0 nm ([]) ([]) wx))
     case first=>
      unfold qi4 at HD;rw [HA.out]at HD
      cases qa with
      |false=>
       rw [zhd]at HD;go_wp2_with fail;go_meet
       case rel=>exact⟨⟨#[]⟩,_,HD,HS⟩
      |true=>
       rw [zfM]at HD;obtain⟨vs,vc,vg,S,ls,lc,lg⟩:=HS.out;have H:=zf7 r σ _ S.rd;unfold zbz at H;generalize(zbK σ).1=nm2 at *;generalize(zbK σ).2=σ2 at *;go_wp2_with (go_at_call 46;refine H.mono ?_;rintro e v5 ⟨rfl,hr5,hg5⟩;have S2:=S.call hr5 hg5;obtain⟨q0,q1,q2,q3,q4,q5,q6,q7,q8,q9,z0,z1,z2,z3,z4,z5,z6,z7,z8,z9⟩:=zbO S2.y);clear q0 q1 q2 q3 q4 q5 q6 q7 q8 q9 z0 z1 z2 z3 z4 z5 z6 z7 z8 z9;have hY:=S2.hB;have ls2:=ls.grown hg5 S.hrB;have lc2:=lc.grown hg5 S.hrB;have lg2:=lg.grown hg5 S.hrB;go_meet
       case rel=>exact⟨nm2,σ2,HD,zzH ⟨vs,vc,vg,S2.put (OffB.set Y _ 7 _) ((zzR _ _).setCell (p:=⟨Y,7,none⟩) (zzL _) _) (zzS _ _ 7 _ _ _ S2.y),ls2.off (OffB.set Y _ 7 _) hY,lc2.off (OffB.set Y _ 7 _) hY,lg2.off (OffB.set Y _ 7 _) hY⟩⟩
     case rest=>
      clear HD HS;obtain⟨nm,σ,HD,HS⟩:=hcut;rename_i K hK;exact hK _ _ (zm9 r σ0 w Q HQ Y R B rr op d ss n nm σ wc ok _ _ _ _ _ _ _ _ _ _ _ _ _ _ _ _ _ _ _ _ _ _ _ _ _ _ _ _ _ _ _ _ _ _ _ _ _ _ _ _ _ _ _ _ _ _ _ _ _ _ _ _ _ _ _ _ _ _ _ _ _ _ _ _ _ _ _ _ _ _ _ _ _ _ _ _ _ _ _ _ _ _ _ _ _ _ _ _ _ _ _ _ _ _ _ _ _ _ _ _ _ _ _ _ _ _ _ _ _ _ _ _ _ _ _ _ _ _ _ _ _ _ _ _ _ _ _ _ _ _ _ _ _ _ _ _ _ _ _ _ _ _ _ _ _ _ _ _ _ _ _ _ _ _ _ _ HD HS)
end Go.Proofs.YtlaabicdhkebbaaGreatDoor
