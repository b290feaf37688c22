import Derived.Test.YtijekmeocadkeaaGreatDoorW08
namespace Go.Proofs.YtijekmeocadkeaaGreatDoor
open Go.RowKit
set_option linter.unusedVariables false
set_option linter.unusedSimpArgs false
set_option maxRecDepth 100000
set_option maxHeartbeats 0
open Go.RowKit Go.Shelf
def StaysE (w w':World):Prop:= ∀(k:Nat) (cs:Array Value) (t:TypeId) (fr:Nat × Nat),w.heap[k]?=some (.cells cs t fr)->t≠5->t≠141->w'.heap[k]?=some (.cells cs t fr)
theorem StaysE.refl (w:World):StaysE w w:=fun _ _ _ _ h _ _=>h
theorem StaysE.trans {a b c:World} (h:StaysE a b) (k:StaysE b c):StaysE a c:=fun i cs t fr hi h1 h2=>k i cs t fr (h i cs t fr hi h1 h2) h1 h2
theorem StaysE.below {a b c:World} (h:StaysE a b) (hb:Below b.heap.size b c):StaysE a c:=fun i cs t fr hi h1 h2=>by
 have:=h i cs t fr hi h1 h2;exact(hb.block i (zc this)).trans this
theorem StaysE.alloc {a b:World} (h:StaysE a b) (o:Obj):StaysE a (b.alloc o):=h.below ((zzR _ _).alloc (zzL _) o)
theorem StaysE.grown {a b c:World} {B size n:Nat} {bv:Value} {xs:List Value} (h:StaysE a b) (ho:b.ownsRow B 5 size bv n xs) (hg:b.grownBy c bv.ownBlock):StaysE a c:=fun i cs t fr hi h1 h2=>by
 exact zz73
theorem StaysE.store {a b:World} {r o:Nat} {cs0:Array Value} {fr0:Nat × Nat} (h:StaysE a b) (hr:b.heap[r]?=some (.cells cs0 141 fr0)) (v:Value):StaysE a (b.setCell ⟨r,o,none⟩ v):=fun i cs t fr hi h1 h2=>by
 exact zz74
def WtAt (B b:Nat) (l:List UInt8) (w:World):Prop:=B<=b/\B<=w.heap.size/\ ∃p bv,(p= .pointer none\/p= .pointer (some ⟨b,0,none⟩))/\w.heap[b]?=some (.cells #[p,bv] 141 (0,0))/\w.ownsRow B 5 1 bv l.length (zo l)/\bv.ownBlock≠some b
theorem WtAt.below {B b:Nat} {l:List UInt8} {w w':World} (h:WtAt B b l w) (hb:Below w.heap.size w w'):WtAt B b l w':=by
 obtain⟨h1,h2,p,bv,hp,hbk,hown,hne⟩:=h;exact⟨h1,zzY h2 hb.size,p,bv,hp,(hb.block b (zc hbk)).trans hbk,hown.kept (zbr hb none) (by cases hv:bv.ownBlock<;>simp),hne⟩
theorem WtAt.lt {B b:Nat} {l:List UInt8} {w:World} (h:WtAt B b l w):b<w.heap.size:=by
 obtain⟨_,_,p,bv,_,hbk,_⟩:=h;exact zc hbk
theorem zt1 {B:Nat} (w:World) (h:B<=w.heap.size):WtAt B w.heap.size [] (w.alloc (.cells #[.pointer none,.slice none 0 0] 141)):=
 ⟨h,by simp;omega,.pointer none,.slice none 0 0,.inl rfl,zzF _ _,World.ownsRow_nil _ _ _ _,by simp [Value.ownBlock]⟩
theorem zgm:(Tryz.prog.info? 67).map (·.size)=some 2:=by kernel_rfl
theorem zno:liesAt Tryz.prog Tryz.prog.depth 141 (2/Tryz.prog.cellsOf 141) 0 67 1=true:=by kernel_rfl
theorem ziS (b:Nat) (w:World) (h0:w.cell? ⟨b,0,none⟩=some (.pointer (some ⟨b,0,none⟩))):
  Calls Tryz.prog 66 #[.pointer (some ⟨b,0,none⟩)] w fun e w'=>e= .returned (.tuple #[])/\w'=w:=by
 obtain⟨j,hj,_⟩:=Option.map_eq_some_iff.1 zgm;go_in;go_wp2;rw [Lib.run_neq_ptr_same w _ Tryz.underlying64 hj];go_wp2;go_end0;exact⟨rfl,rfl⟩
theorem zh7 (b:Nat) (w:World) (h0:w.cell? ⟨b,0,none⟩=some (.pointer none)) (hsh:w.shape? b=some (141,2)) (hfz:w.frozen? ⟨b,0,none⟩=false):
  Calls Tryz.prog 66 #[.pointer (some ⟨b,0,none⟩)] w fun e w'=>e= .returned (.tuple #[])/\w'=w.setCell ⟨b,0,none⟩ (.pointer (some ⟨b,0,none⟩)):=by
 obtain⟨j,hj,hjs⟩:=Option.map_eq_some_iff.1 zgm;go_in;go_wp2;rw [Lib.run_to_unsafe w ⟨b,0,none⟩ Tryz.underlying64 Tryz.underlying167 hj (by rw [hjs];decide) hsh (Nat.zero_lt_succ 1)];simp only [Result.andThen];rw [Oper.upon_value];go_wp2;rw [run_callFunc_extern Tryz.func101 (by kernel_rfl) (by kernel_rfl) (by kernel_rfl) (e:=Extern.AbiNoEscape.same) (by kernel_rfl)];rw [Lib.run_noEscape];simp only [Result.andThen];rw [Oper.upon_value];go_wp2;rw [Lib.run_from_unsafe w ⟨b,0,none⟩ Tryz.underlying167 Tryz.underlying64 hj hsh zno];simp only [Result.andThen];rw [Oper.upon_value];go_wp2;go_end0;exact⟨rfl,rfl⟩
theorem zhg (B b:Nat) (l:List UInt8) (w:World) (h:WtAt B b l w):
  Calls Tryz.prog 66 #[.pointer (some ⟨b,0,none⟩)] w fun e w'=>e= .returned (.tuple #[])/\ ∃bv,w'.heap[b]?=some (.cells #[.pointer (some ⟨b,0,none⟩),bv] 141 (0,0))/\w'.ownsRow B 5 1 bv l.length (zo l)/\bv.ownBlock≠some b/\B<=w'.heap.size/\w'.heap.size=w.heap.size/\Below B w w'/\StaysE w w'/\(∀k,k≠b->w'.heap[k]?=w.heap[k]?)/\ ∃p,w.heap[b]?=some (.cells #[p,bv] 141 (0,0)):=by
 obtain⟨hBb,hBw,p,bv,hp,hbk,hown,hne⟩:=h;rcases hp with rfl|rfl
 ·refine(zh7 b w (by rw [zzq2 _ _ _ _ _ _ hbk];rfl) (by simp [World.shape?,hbk]) (Lib.frozen_of_heap hbk 0)).mono ?_
  rintro e w' ⟨rfl,rfl⟩;refine⟨rfl,bv,?_,?_,hne,by simpa [World.setCell] using hBw,by simp [World.setCell],(zzR B w).setCell (p:=⟨b,0,none⟩) hBb _,(StaysE.refl w).store hbk _,fun k hk=>Below.heap_setCell _ _ _ _ hk,_,hbk⟩
  ·simp [World.setCell,hbk,Array.getElem?_modify]
  ·exact hown.kept ⟨rfl,rfl,rfl,by simp [World.setCell],fun k _ hk=>Below.heap_setCell _ _ _ _ (fun e=>hk (by rw [e]))⟩ (.inr (fun e=>hne e))
 ·refine(ziS b w (by rw [zzq2 _ _ _ _ _ _ hbk];rfl)).mono ?_
  rintro e w' ⟨rfl,rfl⟩;exact⟨rfl,bv,hbk,hown,hne,hBw,rfl,zzR B _,StaysE.refl _,fun _ _=>rfl,_,hbk⟩
def Zed (b z:Nat) (w:World):Prop:=b<z/\ ∀p bv,w.heap[b]?=some (.cells #[p,bv] 141 (0,0))-> ∀k,bv.ownBlock=some k->k<z
theorem Zed.of {B b:Nat} {l:List UInt8} {w:World} (h:WtAt B b l w):Zed b w.heap.size w:=by
 obtain⟨_,_,p,bv,_,hbk,hown,_⟩:=h;refine⟨zc hbk,fun p' bv' h' k hk=>?_⟩;rw [hbk]at h';injection h' with h';injection h' with h' _ _;obtain⟨_,rfl⟩:p=p'/\bv=bv':=by simpa using h'
 exact(hown.lt k hk).2
theorem Zed.below {b z:Nat} {w w':World} (h:Zed b z w) (hl:b<w.heap.size) (hb:Below w.heap.size w w'):Zed b z w':=
 ⟨h.1,fun p bv hp=>h.2 p bv ((hb.block b hl).symm.trans hp)⟩
def zj6 (z:Nat) (w w':World):Prop:= ∀k,z<=k->k<w.heap.size->w'.heap[k]?=w.heap[k]?
theorem zlg {B b:Nat} {l:List UInt8} {news:List UInt8} {w2:World} {bv v':Value} (hBb:B<=b) (hBw:B<=w2.heap.size) (hb:w2.heap[b]?=some (.cells #[.pointer (some ⟨b,0,none⟩),bv] 141 (0,0))) (ho:w2.ownsRow B 5 1 v' (l.length+news.length) (zo l++zo news)) (hne:v'.ownBlock≠some b):
  WtAt B b (l++news) (w2.setCell ⟨b,1,none⟩ v'):=by
 refine⟨hBb,by simpa [World.setCell] using hBw,.pointer (some ⟨b,0,none⟩),v',.inr rfl,?_,?_,hne⟩
 ·simp [World.setCell,hb,Array.getElem?_modify]
 ·exact zz77
theorem zbf (l:List UInt8):(zo l).length=l.length:=by simp [zo]
theorem zbl (l:List UInt8): ∀u∈zo l,u.oneCell'=true:=by
 intro u hu;unfold zo at hu;obtain⟨x,_,rfl⟩:=List.mem_map.1 hu
 rfl
theorem zru (B b:Nat) (l news:List UInt8) (ad:Addr) (c:Nat) (w:World) (h:WtAt B b l w) (hnews: ∀j u,(zo news)[j]?=some u->w.cell? (ad.add j)=some u) (had:ad.block≠b) (hsp:ad.spot=none) (hlen:l.length+news.length<=70368744177664) (z:Nat) (hz:Zed b z w):
  Calls Tryz.prog 117 #[.pointer (some ⟨b,0,none⟩),.slice (some ad) news.length c] w fun e w'=>e= .returned (.tuple #[.int .i64 news.length,.nilIface])/\WtAt B b (l++news) w'/\Below B w w'/\StaysE w w'/\zj6 z w w':=by
 obtain⟨i0,hi,hz0,hz1,hz2⟩:=info_parts zdw;have HN:=zzH hnews;have hBb:=h.1;obtain⟨ab,ao,asp⟩:=ad;simp only at had hsp;subst hsp;clear hnews;go_in;go_wp2_with fail;refine(zhg B b l _ h).mono ?_;rintro e w1 ⟨rfl,bv,hbk,hown,hne,hBw,hsz,hb1,hst,hcell,p0,hp0⟩;have c1:w1.cell? ⟨b,1,none⟩=some bv:=by rw [zzq2 _ _ _ _ _ _ hbk];rfl
 have f1:w1.frozen? ⟨b,1,none⟩=false:=Lib.frozen_of_heap hbk 1
 have HN1:Hid (∀j u,(zo news)[j]?=some u->w1.cell? ((⟨ab,ao,none⟩:Addr).add j)=some u):=zzH (fun j u hj=>by
  have ha:(⟨ab,ao,none⟩:Addr).add j=⟨ab,ao+j,none⟩:=by unfold Addr.add;split<;>simp_all
  have:=HN.out j u hj;rw [ha]at this ⊢;exact(World.cell?_of_block (hcell ab had)).trans this)
 refine zzK5 hst hbk hown hb1 hne fun HST HBK HOWN HB1 HNE=>?_;have hbl:=zc hbk
 have HKZ:Hid (∀(w2:World) (v:Value),w1.grownBy w2 bv.ownBlock->zj6 z w (w2.setCell ⟨b,1,none⟩ v)):=zzH (fun w2 v hg k hk1 hk2=>by
  have hkb:k≠b:=fun e=>by have:=hz.1;omega
  refine(Below.heap_setCell _ _ _ _ hkb).trans ((hg.block k (by omega) (fun e=>?_)).trans (hcell k hkb));have:=hz.2 p0 bv hp0 k e.symm;omega)
 clear hcell hst hbk hb1 hne hsz hz hp0;go_wp2_with (at_builtin;refine wpList_append_own_at _ rfl (.tmp 12) (.tmp 13) 65 rfl B 5 i0 (.int .u8 0) 1 1 Tryz.underlying65 hi hz0 hz1 hz2 rfl (by decide) bv l.length (zo l) rfl hown ⟨ab,ao,none⟩ news.length c (zo news) rfl (by rw [zbf];omega) HN1.out (zbl news) (by unfold maxLen;omega) (by omega) hBw ?_);intro v' w2 hown' hgrow hnil hloc
 have hb2:w2.heap[b]?=some (.cells #[.pointer (some ⟨b,0,none⟩),bv] 141 (0,0)):=by
  rw [hgrow.block b hbl (fun e=>HNE.out e.symm)];exact HBK.out
 have d1:w2.cell? ⟨b,1,none⟩=some bv:=by rw [zzq2 _ _ _ _ _ _ hb2];rfl
 have g1:w2.frozen? ⟨b,1,none⟩=false:=Lib.frozen_of_heap hb2 1
 have hne':v'.ownBlock≠some b:=by
  rcases hloc with e|e
  ·rw [e];exact HNE.out
  ·rw [e];intro e2;have:=zzf e2;omega
 have HB2:Hid (Below B w w2):=zzH (HB1.out.grown hgrow hBw (fun k hk=>(HOWN.out.lt k hk).1));have HW2:Hid (WtAt B b (l++news) (w2.setCell ⟨b,1,none⟩ v')):=zzH (zlg hBb (zzY hBw hgrow.size) hb2 hown' hne');have HST2:Hid (StaysE w (w2.setCell ⟨b,1,none⟩ v')):=zzH ((HST.out.grown HOWN.out hgrow).store hb2 v');have HKZ2:=zzH (HKZ.out w2 v' hgrow);clear HKZ;obtain⟨ao',cap',rfl⟩:=zdm hown';clear hown hown' hgrow hb2 hloc hnil;go_wp2;go_ret2;exact⟨rfl,HW2.out,HB2.out.setCell (p:=⟨b,1,none⟩) hBb _,HST2.out,HKZ2.out⟩
theorem zjz (B b:Nat) (l:List UInt8) (s:ByteArray) (w:World) (h:WtAt B b l w) (hlen:l.length+s.size<=70368744177664):
  Calls Tryz.prog 25 #[.pointer (some ⟨b,0,none⟩),.string s] w fun e w'=>e= .returned (.tuple #[.int .i64 s.size,.nilIface])/\WtAt B b (l++s.data.toList) w'/\Below B w w'/\StaysE w w':=by
 obtain⟨i0,hi,hz0,hz1,hz2⟩:=info_parts zdw;have hBb:=h.1;go_in;go_wp2_with fail;refine(zhg B b l _ h).mono ?_;rintro e w1 ⟨rfl,bv,hbk,hown,hne,hBw,hsz,hb1,hst,hcell,p0,hp0⟩;have c1:w1.cell? ⟨b,1,none⟩=some bv:=by rw [zzq2 _ _ _ _ _ _ hbk];rfl
 have f1:w1.frozen? ⟨b,1,none⟩=false:=Lib.frozen_of_heap hbk 1;refine zzK5 hst hbk hown hb1 hne fun HST HBK HOWN HB1 HNE=>?_;have hbl:=zc hbk;clear hcell hst hbk hb1 hne hsz hp0;go_wp2_with (at_builtin;refine Lib.wpList_append_own_string _ rfl (.tmp 12) (.tmp 13) 65 9 rfl B 5 i0 Tryz.underlying65 Tryz.underlying9 hi hz0 hz1 hz2 bv l.length (zo l) rfl hown s rfl (by unfold maxLen;omega) (by omega) hBw ?_);intro v' w2 hown' hgrow hnil
 have hb2:w2.heap[b]?=some (.cells #[.pointer (some ⟨b,0,none⟩),bv] 141 (0,0)):=by
  rw [hgrow.block b hbl (fun e=>HNE.out e.symm)];exact HBK.out
 have d1:w2.cell? ⟨b,1,none⟩=some bv:=by rw [zzq2 _ _ _ _ _ _ hb2];rfl
 have g1:w2.frozen? ⟨b,1,none⟩=false:=Lib.frozen_of_heap hb2 1;have hne':v'.ownBlock≠some b:=zgY hown' hb2 (by decide);have HB2:Hid (Below B w w2):=zzH (HB1.out.grown hgrow hBw (fun k hk=>(HOWN.out.lt k hk).1))
 have HW2:Hid (WtAt B b (l++s.data.toList) (w2.setCell ⟨b,1,none⟩ v')):=zzH (by
  have ho2:w2.ownsRow B 5 1 v' (l.length+s.data.toList.length) (zo l++zo s.data.toList):=hown';exact zlg hBb (zzY hBw hgrow.size) hb2 ho2 hne')
 have HST2:Hid (StaysE w (w2.setCell ⟨b,1,none⟩ v')):=zzH ((HST.out.grown HOWN.out hgrow).store hb2 v');obtain⟨ao',cap',rfl⟩:=zdm hown';clear hown hown' hgrow hb2 hnil;go_wp2;go_ret2;exact⟨rfl,HW2.out,HB2.out.setCell (p:=⟨b,1,none⟩) hBb _,HST2.out⟩
theorem zhf (B b:Nat) (l news:List UInt8) (ad:Addr) (c:Nat) (w:World) (h:WtAt B b l w) (hnews: ∀j u,(zo news)[j]?=some u->w.cell? (ad.add j)=some u) (had:ad.block≠b) (hsp:ad.spot=none) (hlen:l.length+news.length<=70368744177664) (z:Nat) (hz:Zed b z w):
  Calls Tryz.prog 76 #[.pointer (some ⟨b,0,none⟩),.slice (some ad) news.length c] w fun e w'=>e= .returned (.tuple #[])/\WtAt B b (l++news) w'/\Below B w w'/\StaysE w w'/\zj6 z w w':=by
 have hw:=zru B b l news ad c w h hnews had hsp hlen z hz;clear h hnews had hsp hlen hz;go_in;go_wp2_with fail;refine hw.mono ?_;rintro e w1 ⟨rfl,h1⟩;go_wp2_with fail;go_end0;exact⟨rfl,h1⟩
def WtQ (B b:Nat) (l:List UInt8) (w:World) (e:Ending) (w':World):Prop:=e= .returned (.tuple #[])/\WtAt B b l w'/\Below B w w'/\StaysE w w'
theorem zgJ {w:World} {T:TypeId} (news:List UInt8) (cs:Array Value) (hcs:cs.toList=zo news): ∀j u,(zo news)[j]?=some u->(w.alloc (.cells cs T)).cell? ((⟨w.heap.size,0,none⟩:Addr).add j)=some u:=by
 intro j u hj;have ha:(⟨w.heap.size,0,none⟩:Addr).add j=⟨w.heap.size,j,none⟩:=by unfold Addr.add;split<;>simp_all
 rw [ha,zzq2 _ _ _ _ _ _ (heap_alloc_new w _),<-hj,<-hcs,Array.getElem?_toList]
theorem zhr (B b:Nat) (l news:List UInt8) (cs:Array Value) (T:TypeId) (w:World) (h:WtAt B b l w) (hcs:cs.toList=zo news) (hlen:l.length+news.length<=70368744177664) (n c:Nat) (hn:n=news.length) (z:Nat) (hz:Zed b z w):
  Calls Tryz.prog 76 #[.pointer (some ⟨b,0,none⟩),.slice (some ⟨w.heap.size,0,none⟩) n c] (w.alloc (.cells cs T)) fun e w'=>WtQ B b (l++news) w e w'/\zj6 z w w':=by
 subst hn;have hb:Below w.heap.size w (w.alloc (.cells cs T)):=zzE _ _;refine(zhf B b l news ⟨w.heap.size,0,none⟩ c _ (h.below hb) (zgJ news cs hcs) (fun e=>by have:=h.lt;simp only at e;omega) rfl hlen z (hz.below h.lt hb)).mono ?_;rintro e w' ⟨rfl,h1,h2,h3,h4⟩;exact⟨⟨rfl,h1,(hb.mono h.2.1).trans h2,((StaysE.refl w).below hb).trans h3⟩,fun k hk1 hk2=>(h4 k hk1 (by simp;omega)).trans (hb.block k hk2)⟩
theorem zhZ (B b:Nat) (l news:List UInt8) (cs:Array Value) (T:TypeId) (w:World) (h:WtAt B b l w) (hcs:cs.toList=zo news) (hlen:l.length+news.length<=70368744177664) (n c:Nat) (hn:n=news.length):
  Calls Tryz.prog 76 #[.pointer (some ⟨b,0,none⟩),.slice (some ⟨w.heap.size,0,none⟩) n c] (w.alloc (.cells cs T)) (WtQ B b (l++news) w):=
 (zhr B b l news cs T w h hcs hlen n c hn _ (Zed.of h)).mono fun _ _ h=>h.1
theorem zeV (B b:Nat) (l:List UInt8) (x:Int) (T:TypeId) (w:World) (h:WtAt B b l w) (hx:0<=x/\x<256) (hlen:l.length+1<=70368744177664):
  Calls Tryz.prog 76 #[.pointer (some ⟨b,0,none⟩),.slice (some ⟨w.heap.size,0,none⟩) 1 1] (w.alloc (.cells #[.int .u8 x] T)) (WtQ B b (l++ [UInt8.ofNat x.toNat]) w):=
 zhZ B b l [UInt8.ofNat x.toNat] _ T w h (by simp [zo];omega) hlen 1 1 rfl
theorem zj9 (B b:Nat) (l:List UInt8) (x y:Int) (T:TypeId) (w:World) (h:WtAt B b l w) (hx:0<=x/\x<256) (hy:0<=y/\y<256) (hlen:l.length+2<=70368744177664):
  Calls Tryz.prog 76 #[.pointer (some ⟨b,0,none⟩),.slice (some ⟨w.heap.size,0,none⟩) 2 2] (w.alloc (.cells #[.int .u8 x,.int .u8 y] T)) (WtQ B b (l++ [UInt8.ofNat x.toNat,UInt8.ofNat y.toNat]) w):=
 zhZ B b l [UInt8.ofNat x.toNat,UInt8.ofNat y.toNat] _ T w h (by simp [zo];omega) hlen 2 2 rfl
theorem zul (B b:Nat) (l:List UInt8) (x y z:Int) (T:TypeId) (w:World) (h:WtAt B b l w) (hx:0<=x/\x<256) (hy:0<=y/\y<256) (hz:0<=z/\z<256) (hlen:l.length+3<=70368744177664):
  Calls Tryz.prog 76 #[.pointer (some ⟨b,0,none⟩),.slice (some ⟨w.heap.size,0,none⟩) 3 3] (w.alloc (.cells #[.int .u8 x,.int .u8 y,.int .u8 z] T)) (WtQ B b (l++ [UInt8.ofNat x.toNat,UInt8.ofNat y.toNat,UInt8.ofNat z.toNat]) w):=
 zhZ B b l [UInt8.ofNat x.toNat,UInt8.ofNat y.toNat,UInt8.ofNat z.toNat] _ T w h (by simp [zo];omega) hlen 3 3 rfl
theorem zcM (B b:Nat) (l:List UInt8) (n:Int) (k:Nat) (w:World) (h:WtAt B b l w) (hn:I64 n) (hk:k<=8) (hlen:l.length<=35184372088832):
  Calls Tryz.prog 120 #[.pointer (some ⟨b,0,none⟩),.int .i64 n,.int .i64 k] w (WtQ B b (l++beN k n) w):=by
 have HH:Hid (WtAt B b l w/\Below B w w/\StaysE w w):=zzH ⟨h,zzR _ _,StaysE.refl _⟩;have HT:Hid (l++beN k n=l++beN k n):=zzH rfl;obtain⟨n0,n1⟩:=hn;clear h;unfold WtQ;generalize hT:l++beN k n=T at *;go_in;go_wp2_with fail;go_loopw [6] (fun iv wr=> ∃(m:Nat) (l':List UInt8),m<=k/\iv= .int .i64 ((m:Int)-1)/\Hid (T=l'++beN m n)/\l'.length+m=l.length+k/\Hid (WtAt B b l' wr/\Below B w wr/\StaysE w wr)) (fun iv _=>(intOf iv+1).toNat)
 case atStart=>exact⟨k,l,zzL _,rfl,zzH hT.symm,rfl,HH⟩
 case round=>
  obtain⟨m,l',hm,rfl,HV,hl,HW⟩:=hrel;rename World=>wr
  cases m with
  |succ m=>
   have e1:((m+1:Nat):Int)-1=(m:Int):=by omega
   rw [e1];have HV2:Hid (T=(l'++ [UInt8.ofNat (n/2^(8*m)%256).toNat])++beN m n):=zzH (by rw [HV.out,zzq4];rfl);have hc:=zeV B b l' (n/2^(8*m)%256) 5 wr HW.out.1 (by omega) (by omega);have HC:=zzH hc;clear hc;go_wp2_with fail;refine HC.out.mono ?_;rintro e w1 ⟨rfl,h1,h2,h3⟩;have HW1:Hid (WtAt B b _ w1/\Below B w w1/\StaysE w w1):=zzH ⟨h1,HW.out.2.1.trans h2,HW.out.2.2.trans h3⟩;clear h1 h2 h3 e1;go_wp2_with fail;go_roundw
   case rel=>exact⟨m,_,by omega,rfl,HV2,by rw [zzq1,List.length_singleton];omega,HW1⟩
   case measure=>simp [intOf]
  |zero=>
   have HV2:Hid (T=l'):=zzH (by rw [HV.out];exact List.append_nil _);go_wp2_with fail;go_end0;exact⟨rfl,by rw [HV2.out];exact HW.out.1,HW.out.2⟩
theorem ze6 (B b:Nat) (l:List UInt8) (s:ByteArray) (w:World) (h:WtAt B b l w) (hs:s.size<=32) (hlen:l.length<=35184372088832):
  Calls Tryz.prog 119 #[.pointer (some ⟨b,0,none⟩),.string s] w (WtQ B b (l++zE s) w):=by
 have h1:=zj9 B b l 119 s.size 5 w h (by omega) (by omega) (by omega);have HT:Hid (l++zE s=(l++ [UInt8.ofNat (119:Int).toNat,UInt8.ofNat (s.size:Int).toNat])++s.data.toList):=zzH (by rw [zzq4];rfl);generalize l++zE s=T at *;have HS2: ∀wx,WtAt B b (l++ [UInt8.ofNat (119:Int).toNat,UInt8.ofNat (s.size:Int).toNat]) wx->_:=fun wx hx=>zjz B b _ s wx hx (by rw [zzq1];simp;omega)
 have H1:=zzH h1;have H2:=zzH HS2;clear h h1 HS2;unfold WtQ;go_in;go_wp2_with fail;refine H1.out.mono ?_;rintro e w1 ⟨rfl,g1,g2,g3⟩;go_wp2_with fail;refine(H2.out _ g1).mono ?_;rintro e w2 ⟨rfl,k1,k2,k3⟩;have HF:Hid (WtAt B b T w2/\Below B w w2/\StaysE w w2):=zzH ⟨by rw [HT.out];exact k1,g2.trans k2,g3.trans k3⟩;clear g1 g2 g3 k1 k2 k3;go_wp2_with fail;go_end0;exact⟨rfl,HF.out⟩
theorem zbk {w:World} {B:Nat} {bv:Value} {l:List UInt8} (h:w.ownsRow B 5 1 bv l.length (zo l)) (hne:l≠ []): ∃g cap cur,bv= .slice (some ⟨g,0,none⟩) l.length cap/\B<=g/\w.heap[g]?=some (.cells cur 5 (0,0))/\cur.toList.take l.length=zo l:=by
 rcases h.2 with⟨_,h0⟩|⟨g,cap,cur,rfl,hB,hg,hc,_,hsz,htk⟩
 ·exact absurd (zzQ h0) hne
 ·rw [Nat.mul_one]at htk
  exact⟨g,cap,cur,rfl,hB,hg,htk⟩
theorem zbq {w:World} {g:Nat} {cur:Array Value} {l:List UInt8} (hg:w.heap[g]?=some (.cells cur 5 (0,0))) (ht:cur.toList.take l.length=zo l): ∀j u,(zo l)[j]?=some u->w.cell? ((⟨g,0,none⟩:Addr).add j)=some u:=by
 intro j u hj;have ha:(⟨g,0,none⟩:Addr).add j=⟨g,j,none⟩:=by unfold Addr.add;split<;>simp_all
 have hjl:j<l.length:=by
  have:=(List.getElem?_eq_some_iff.1 hj).1
  rwa [zbf]at this
 rw [ha,zzq2 _ _ _ _ _ _ hg,<-hj,<-ht,List.getElem?_take_of_lt hjl,Array.getElem?_toList]
theorem zgZ (f:Nat):leN f 0= []:=by cases f<;>rfl
theorem zhI (B b:Nat) (l:List UInt8) (n:Int) (w:World) (h:WtAt B b l w) (hn:I64 n) (hlen:l.length<=17592186144416):
  Calls Tryz.prog 118 #[.pointer (some ⟨b,0,none⟩),.int .i64 n] w (WtQ B b (l++zbJ n) w):=by
 have HE:Hid (zbJ n=if 0<=n/\n<=255 then [97,UInt8.ofNat n.toNat]else if -2147483648<=n/\n<=2147483647 then 98::beN 4 n else zgU n):=zzH rfl;generalize zbJ n=E at *;by_cases h1:0<=n/\n<=255
 ·rw [if_pos h1]at HE
  have hc:=zj9 B b l 97 n 5 w h (by omega) (by omega) (by omega);have HC:Hid (Calls Tryz.prog 76 _ _ (WtQ B b (l++E) w)):=zzH (by rw [HE.out];exact hc);obtain⟨a1,a2⟩:=h1;clear h hc;unfold WtQ;go_in;go_wp2_with fail;refine HC.out.mono ?_;rintro e w1 ⟨rfl,hq⟩;go_wp2_with fail;go_end0;exact⟨rfl,hq⟩
 ·have hge:decide (0<=n)=true->decide (n<256)=false:=fun h=>zzD (by have:=zza h;omega)
  rw [if_neg h1]at HE;by_cases h2: -2147483648<=n/\n<=2147483647
  ·rw [if_pos h2]at HE
   have hc:=zeV B b l 98 5 w h (by omega) (by omega);have hc2: ∀wx,WtAt B b (l++ [UInt8.ofNat (98:Int).toNat]) wx->_:=fun wx hx=>zcM B b _ n 4 wx hx hn (by omega) (by rw [zzq1];simp;omega)
   have HC:=zzH hc;have HC2:=zzH hc2;have HT:Hid (l++E=(l++ [UInt8.ofNat (98:Int).toNat])++beN 4 n):=zzH (by rw [HE.out,zzq4];rfl);obtain⟨b1,b2⟩:=h2;clear h hc hc2;unfold WtQ;generalize l++E=T at *;clear hge;by_cases h0:0<=n
   ·have h3:256<=n:=by omega
    clear h1;exact zz133
   ·clear h1
    have h3:n<0:=by omega
    clear h0;exact zz133
  ·rw [if_neg h2]at HE
   have HB:Hid (E=110::UInt8.ofNat (leN 8 n.natAbs).length::(if n<0 then 1 else 0)::leN 8 n.natAbs):=zzH HE.out;have HW:=zzH h;obtain⟨i0,hi,hz0,hz1,hz2⟩:=info_parts zdw;obtain⟨n0,n1⟩:=hn;have hwn:(n==wrap64 (wrap32 n))=false:=zzB.2 (by unfold wrap64 wrap32;omega);clear hge h HE;unfold WtQ;generalize hAA:leN 8 n.natAbs=A at HB;have HA:Hid (A= []++leN 8 n.natAbs):=zzH hAA.symm;have HAA:=zzH hAA;by_cases h0:n<0
   ·have h3:n< -2147483648:=by omega
    have HS:Hid (IntKind.u64.wrap (-IntKind.u64.wrap n)=(n.natAbs:Int)):=zzH (by rw [IntKind.wrap_u64,IntKind.wrap_u64];omega);clear h1 h2 hAA;go_in;go_wp2_with fail;go_loopw [5,6] (fun uv lv wr=> ∃(m f:Nat) (xs:List UInt8),uv= .int .u64 (m:Int)/\m<256^f/\xs.length+f=8/\Hid (A=xs++leN f m)/\Hid (wr.ownsRow w.heap.size 5 1 lv xs.length (zo xs))/\Below w.heap.size w wr) (fun uv _ _=>(intOf uv).toNat)
    case atStart=>exact⟨n.natAbs,8,[],by rw [HS.out],by omega,rfl,HA,zzH (World.ownsRow_nil _ _ _ _),zzR _ _⟩
    case round=>
     obtain⟨m,f,xs,rfl,hm,hxf,HV,HO,hB⟩:=hrel;rename World=>wr
     have hown:=HO.out;by_cases hm0:0<m
     ·exact zz132
     ·obtain rfl:m=0:=by omega
      have HV2:Hid (A=xs):=zzH (by rw [HV.out,zgZ,List.append_nil])
      have hxn:xs≠ []:=fun e=>by
       exact zz135
      have hxl:0<xs.length:=List.length_pos_iff.2 hxn;have HX:Hid (∃g cap cur,(_:Value)= .slice (some ⟨g,0,none⟩) xs.length cap/\w.heap.size<=g/\wr.heap[g]?=some (.cells cur 5 (0,0))/\cur.toList.take xs.length=zo xs):=zzH (zbk HO.out hxn)
      obtain⟨g,cap,cur,rfl,hg1,hg2,hg3⟩:=HX.out;have hzed:Zed b w.heap.size wr:=(Zed.of HW.out).below HW.out.lt hB;have hc:=zhr B b l [110,UInt8.ofNat xs.length,1] #[.int .u8 110,.int .u8 xs.length,.int .u8 1] 5 wr (HW.out.below hB) (by simp [zo];omega) (by simp;omega) 3 3 rfl w.heap.size hzed;have HC:=zzH hc;have HG:Hid (wr.heap[g]?=some (.cells cur 5 (0,0))/\cur.toList.take xs.length=zo xs):=zzH ⟨hg2,hg3⟩
      have hgl:=zc hg2;have HZ:=zzH hzed;clear hc hg2 hg3 HX HO hown hxn hzed;go_wp2_with fail;refine HC.out.mono ?_;rintro e w1 ⟨⟨rfl,q1,q2,q3⟩,q4⟩;have hg1':w1.heap[g]?=some (.cells cur 5 (0,0)):=(q4 g hg1 hgl).trans HG.out.1
      have hc2:=zhf B b _ xs ⟨g,0,none⟩ cap w1 q1 (zbq hg1' HG.out.2) (fun e=>by have:=HZ.out.1;simp only at e;omega) rfl (by simp;omega) w1.heap.size (Zed.of q1);have HC2:=zzH hc2
      have HF:Hid (∀w2,WtAt B b ((l++ [110,UInt8.ofNat xs.length,1])++xs) w2->Below B w1 w2->StaysE w1 w2->WtAt B b (l++E) w2/\Below B w w2/\StaysE w w2):=zzH (fun w2 z1 z2 z3=>⟨by
       have:l++E=(l++ [110,UInt8.ofNat xs.length,1])++xs:=by rw [HB.out,HV2.out,zzq4];rw [if_pos h0];rfl
       rw [this];exact z1,((hB.mono HW.out.2.1).trans q2).trans z2,(((StaysE.refl w).below hB).trans q3).trans z3⟩)
      exact zz134
   ·have h3:2147483647<n:=by omega
    have HS:Hid (n=(n.natAbs:Int)):=zzH (by omega);clear h1 h2 hAA;go_in;go_wp2_with fail;go_loopw [5,6] (fun uv lv wr=> ∃(m f:Nat) (xs:List UInt8),uv= .int .u64 (m:Int)/\m<256^f/\xs.length+f=8/\Hid (A=xs++leN f m)/\Hid (wr.ownsRow w.heap.size 5 1 lv xs.length (zo xs))/\Below w.heap.size w wr) (fun uv _ _=>(intOf uv).toNat)
    case atStart=>exact⟨n.natAbs,8,[],congrArg _ HS.out,by omega,rfl,HA,zzH (World.ownsRow_nil _ _ _ _),zzR _ _⟩
    case round=>
     obtain⟨m,f,xs,rfl,hm,hxf,HV,HO,hB⟩:=hrel;rename World=>wr
     have hown:=HO.out;by_cases hm0:0<m
     ·exact zz132
     ·obtain rfl:m=0:=by omega
      have HV2:Hid (A=xs):=zzH (by rw [HV.out,zgZ,List.append_nil])
      have hxn:xs≠ []:=fun e=>by
       exact zz135
      have hxl:0<xs.length:=List.length_pos_iff.2 hxn;have HX:Hid (∃g cap cur,(_:Value)= .slice (some ⟨g,0,none⟩) xs.length cap/\w.heap.size<=g/\wr.heap[g]?=some (.cells cur 5 (0,0))/\cur.toList.take xs.length=zo xs):=zzH (zbk HO.out hxn)
      obtain⟨g,cap,cur,rfl,hg1,hg2,hg3⟩:=HX.out;have hzed:Zed b w.heap.size wr:=(Zed.of HW.out).below HW.out.lt hB;have hc:=zhr B b l [110,UInt8.ofNat xs.length,0] #[.int .u8 110,.int .u8 xs.length,.int .u8 0] 5 wr (HW.out.below hB) (by simp [zo];omega) (by simp;omega) 3 3 rfl w.heap.size hzed;have HC:=zzH hc;have HG:Hid (wr.heap[g]?=some (.cells cur 5 (0,0))/\cur.toList.take xs.length=zo xs):=zzH ⟨hg2,hg3⟩
      have hgl:=zc hg2;have HZ:=zzH hzed;clear hc hg2 hg3 HX HO hown hxn hzed;go_wp2_with fail;refine HC.out.mono ?_;rintro e w1 ⟨⟨rfl,q1,q2,q3⟩,q4⟩;have hg1':w1.heap[g]?=some (.cells cur 5 (0,0)):=(q4 g hg1 hgl).trans HG.out.1
      have hc2:=zhf B b _ xs ⟨g,0,none⟩ cap w1 q1 (zbq hg1' HG.out.2) (fun e=>by have:=HZ.out.1;simp only at e;omega) rfl (by simp;omega) w1.heap.size (Zed.of q1);have HC2:=zzH hc2
      have HF:Hid (∀w2,WtAt B b ((l++ [110,UInt8.ofNat xs.length,0])++xs) w2->Below B w1 w2->StaysE w1 w2->WtAt B b (l++E) w2/\Below B w w2/\StaysE w w2):=zzH (fun w2 z1 z2 z3=>⟨by
       have:l++E=(l++ [110,UInt8.ofNat xs.length,0])++xs:=by rw [HB.out,HV2.out,zzq4];rw [if_neg (by omega)];rfl
       rw [this];exact z1,((hB.mono HW.out.2.1).trans q2).trans z2,(((StaysE.refl w).below hB).trans q3).trans z3⟩)
      exact zz134
structure Wst (B b X:Nat) (t:Tm) (so:Option Addr) (c:Nat) (w:World) (l:List UInt8) (wx:World):Prop where
 at':WtAt B b l wx
 box:wx.heap[X]?=some (.cells #[.int .i64 t.kind,.int .i64 t.int,.int .i64 t.gen,.string t.name,.string t.func,.int .i64 t.arity,.slice so t.items.length c,.string t.bytes,.int .i64 t.bits] 55 (0,0))
 bel:Below B w wx
 st:StaysE w wx
theorem Wst.next {B b X:Nat} {t:Tm} {so:zzA} {c:Nat} {w:World} {l l':List UInt8} {wx wy:World} (h:Wst B b X t so c w l wx) (h1:WtAt B b l' wy) (h2:Below B wx wy) (h3:StaysE wx wy):Wst B b X t so c w l' wy:=
 ⟨h1,h3 X _ _ _ h.box (by decide) (by decide),h.bel.trans h2,h.st.trans h3⟩
theorem Wst.below {B b X:Nat} {t:Tm} {so:zzA} {c:Nat} {w:World} {l:List UInt8} {wx wy:World} (h:Wst B b X t so c w l wx) (hb:Below wx.heap.size wx wy):Wst B b X t so c w l wy:=
 h.next (h.at'.below hb) (hb.mono h.at'.2.1) ((StaysE.refl _).below hb)
def zk8 (f:Nat):Prop:= ∀(t:Tm) (so:Option Addr) (c b:Nat) (l:List UInt8) (w0 w:World),SlAt w0 9 (TmAt w0 f) so t.items->t.Ok->zj (f+1) t=true->Below w0.heap.size w0 w->WtAt w0.heap.size b l w->l.length+(zF (f+1) t).length<=17592186044416 ->
 Calls Tryz.prog 77 #[.pointer (some ⟨b,0,none⟩),.agg #[.int .i64 t.kind,.int .i64 t.int,.int .i64 t.gen,.string t.name,.string t.func,.int .i64 t.arity,.slice so t.items.length c,.string t.bytes,.int .i64 t.bits]] w (WtQ w0.heap.size b (l++zF (f+1) t) w)
theorem zik (f:Nat) (IH: ∀f',f=f'+1->zk8 f'):zk8 f:=by
 intro t so c b l w0 w hsl hok hform hb0 hwt hlen;have hfa:zcm t=true/\t.items.all (zj f)=true:=by unfold zj at hform;rwa [zzq6]at hform
 have hokK:okK t=true:=by have:=hfa.1;unfold zcm at this;rw [zzq6]at this;exact this.1
 have hhl:=(zgd hokK).1;have HT:Hid (l++zF (f+1) t=(l++zx t)++(t.items.drop 0).flatMap (zF f)):=zzH (by rw [zzq4];rfl);have HTL:Hid ((l++zF (f+1) t).length<=17592186044416):=zzH (by rw [zzq1];exact hlen);have hll:l.length<=17592186044416:=by omega
 obtain⟨ok0,ok1,ok2,ok3,ok4,ok5,ok6,ok7,ok8⟩:=hok;unfold maxLen at ok3 ok4 ok6 ok7;unfold WtQ
 have HREC:Hid (∀(k:Nat) (wr:World) (hlt:k<t.items.length),Below w0.heap.size w0 wr-> ∃b2 off ai ci,so=some ⟨b2,off,none⟩/\b2<wr.heap.size/\wr.cell? ⟨b2,off+k*9,none⟩=some (.int .i64 t.items[k].kind) /\wr.cell? ⟨b2,off+k*9+1,none⟩=some (.int .i64 t.items[k].int) /\wr.cell? ⟨b2,off+k*9+2,none⟩=some (.int .i64 t.items[k].gen) /\wr.cell? ⟨b2,off+k*9+3,none⟩=some (.string t.items[k].name) /\wr.cell? ⟨b2,off+k*9+4,none⟩=some (.string t.items[k].func) /\wr.cell? ⟨b2,off+k*9+5,none⟩=some (.int .i64 t.items[k].arity) /\wr.cell? ⟨b2,off+k*9+6,none⟩=some (.slice ai t.items[k].items.length ci) /\wr.cell? ⟨b2,off+k*9+7,none⟩=some (.string t.items[k].bytes) /\wr.cell? ⟨b2,off+k*9+8,none⟩=some (.int .i64 t.items[k].bits)/\(∀(l':List UInt8) (wy:World),Below w0.heap.size w0 wy->WtAt w0.heap.size b l' wy->l'.length+(zF f t.items[k]).length<=17592186044416->Calls Tryz.prog 77 #[.pointer (some ⟨b,0,none⟩),.agg #[.int .i64 t.items[k].kind,.int .i64 t.items[k].int,.int .i64 t.items[k].gen,.string t.items[k].name,.string t.items[k].func,.int .i64 t.items[k].arity,.slice ai t.items[k].items.length ci,.string t.items[k].bytes,.int .i64 t.items[k].bits]] wy (WtQ w0.heap.size b (l'++zF f t.items[k]) wy))):=zzH (fun k wr hlt hb=>by
  cases f with
  |zero=>rw [hsl.zero]at hlt;exact absurd hlt (zzC _)
  |succ f=>
   obtain⟨b2,off,ai,ci,hao,hb2,q0,q1,q2,q3,q4,q5,q6,q7,q8,hit,hok2⟩:=hsl.tm hlt;have hc:=fun i=>hb.cell (p:=⟨b2,off+k*9+i,none⟩) hb2
   exact⟨b2,off,ai,ci,hao,zzW hb2 hb.size,(hc 0).trans q0,(hc 1).trans q1,(hc 2).trans q2,(hc 3).trans q3,(hc 4).trans q4,(hc 5).trans q5,(hc 6).trans q6,(hc 7).trans q7,(hc 8).trans q8,fun l' wy h1 h2 h3=>IH f rfl _ ai ci b l' w0 wy hit hok2 (zzp.1 hfa.2 _ (zzM hlt)) h1 h2 h3⟩)
 have hbx:=zbM w t so c;have hba:Below w.heap.size w (w.alloc (.cells (zzt t so c) 55)):=zzE _ _;have HS:Hid (Wst w0.heap.size b w.heap.size t so c w l (w.alloc (.cells (zzt t so c) 55))):=zzH ⟨hwt.below hba,hbx,hba.mono hwt.2.1,(StaysE.refl _).below hba⟩;have HB0:=zzH hb0;clear hsl hform hb0 hwt hlen hbx hba hfa IH;generalize l++zF (f+1) t=T at *;go_in;go_upto_region 1 with fail;generalize w.alloc (.cells (zzt t so c) 55)=W at *;generalize w.heap.size=X at *;obtain⟨c0,c1,c2,c3,c4,c5,c6,c7,c8,cz⟩:=zg HS.out.box;have hlx:=zc HS.out.box;clear cz;go_upto_block 0 with fail;go_cut [6] (fun s wx=>Hid (Wst w0.heap.size b X t so c w (l++zx t) wx))
 case first=>
  clear HREC HT HTL HB0;by_cases hk:t.kind=1
  ·have hn:=hokK
   clear hokK;have HE:Hid (zx t=zbJ t.int):=zzH (by unfold zx;simp [hk]);have t1:(t.kind==1)=true:=by rw [beq_iff_eq];exact hk
   clear hk;go_wp2_with fail;refine(zhI _ b _ t.int _ HS.out.at' ok1 (by first|omega|(simp [zi,zh];done)|(simp [zi,zh];omega))).mono ?_;exact zz153
  by_cases hk:t.kind=2
  ·have hn:zw t.name=true:=by unfold okK at hokK;simpa [hk] using hokK
   have:=zJ hn;have HE:Hid (zx t=zE t.name):=zzH (by unfold zx;simp [hk]);have t1:(t.kind==1)=false:=by rw [zzq3];omega
   have t2:(t.kind==2)=true:=by rw [beq_iff_eq];exact hk
   clear hk;go_wp2_with fail;refine(ze6 _ b _ t.name _ HS.out.at' (zJ hn) (by first|omega|(simp [zi,zh];done)|(simp [zi,zh];omega))).mono ?_;exact zz153
  by_cases hk:t.kind=7
  ·have hn:t.items.length<=255:=by unfold okK at hokK;simpa [hk] using hokK
   have HE:Hid (zx t= [104,UInt8.ofNat t.items.length]):=zzH (by unfold zx;simp [hk]);have t1:(t.kind==1)=false:=by rw [zzq3];omega
   have t2:(t.kind==2)=false:=by rw [zzq3];omega
   have t7:(t.kind==7)=true:=by rw [beq_iff_eq];exact hk
   clear hk;go_wp2_with fail;refine(zj9 _ b _ 104 (t.items.length:Int) 5 _ HS.out.at' (by omega) (by omega) (by first|omega|(simp [zi,zh];done)|(simp [zi,zh];omega))).mono ?_;exact zz153
  by_cases hk:t.kind=8
  ·have hn:=hokK
   have HE:Hid (zx t= [106]):=zzH (by unfold zx;simp [hk]);have t1:(t.kind==1)=false:=by rw [zzq3];omega
   have t2:(t.kind==2)=false:=by rw [zzq3];omega
   have t7:(t.kind==7)=false:=by rw [zzq3];omega
   have t8:(t.kind==8)=true:=by rw [beq_iff_eq];exact hk
   clear hk;go_wp2_with fail;refine(zeV _ b _ 106 5 _ HS.out.at' (by omega) (by first|omega|(simp [zi,zh];done)|(simp [zi,zh];omega))).mono ?_;exact zz153
  by_cases hk:t.kind=9
  ·have hn:2<=t.items.length:=by unfold okK at hokK;simp [hk]at hokK;exact hokK.1
   have hw1:=zzV t.items.length (by omega)
   have HE:Hid (zx t=108::beN 4 ((t.items.length:Int)-1)):=zzH (by unfold zx;simp [hk]);have t1:(t.kind==1)=false:=by rw [zzq3];omega
   have t2:(t.kind==2)=false:=by rw [zzq3];omega
   have t7:(t.kind==7)=false:=by rw [zzq3];omega
   have t8:(t.kind==8)=false:=by rw [zzq3];omega
   have t9:(t.kind==9)=true:=by rw [beq_iff_eq];exact hk
   clear hk;go_wp2_with fail;refine(zeV _ b _ 108 5 _ HS.out.at' (by omega) (by first|omega|(simp [zi,zh];done)|(simp [zi,zh];omega))).mono ?_;rintro e w10 ⟨rfl,g1,g2,g3⟩;have HS:=zzH (HS.out.next g1 g2 g3);clear g1 g2 g3 c0 c1 c2 c3 c4 c5 c6 c7 c8 hlx;obtain⟨c0,c1,c2,c3,c4,c5,c6,c7,c8,cz⟩:=zg HS.out.box;have hlx:=zc HS.out.box;clear cz;go_wp2_with fail;refine(zcM _ b _ ((t.items.length:Int)-1) 4 _ HS.out.at' (by unfold I64;omega) (by omega) (by first|omega|(simp [zi,zh];done)|(simp [zi,zh];omega))).mono ?_;rintro e w11 ⟨rfl,g1,g2,g3⟩;have HS:=zzH (HS.out.next g1 g2 g3);clear g1 g2 g3 c0 c1 c2 c3 c4 c5 c6 c7 c8 hlx;go_wp2_with fail;go_meet
   case rel=>
    have HQ:=HS.out
    try simp only [zzq4]at HQ
    rw [HE.out];exact zzH HQ
  by_cases hk:t.kind=10
  ·have hn:zcf t.bytes t.bits=true:=by unfold okK at hokK;simp [hk]at hokK;exact hokK
   obtain⟨hb0,hb1,hb2⟩:=zgh hn;have hy:t.bytes.size<=3000:=by omega
   clear hb2 hn hokK;by_cases hr:t.bits%8=0
   ·have hrb:(t.bits%8==0)=true:=by rw [beq_iff_eq];exact hr
    have HE:Hid (zx t=109::(beN 4 t.bytes.size++t.bytes.data.toList)):=zzH (by unfold zx;simp [hk,hr]);have t1:(t.kind==1)=false:=by rw [zzq3];omega
    have t2:(t.kind==2)=false:=by rw [zzq3];omega
    have t7:(t.kind==7)=false:=by rw [zzq3];omega
    have t8:(t.kind==8)=false:=by rw [zzq3];omega
    have t9:(t.kind==9)=false:=by rw [zzq3];omega
    have t10:(t.kind==10)=true:=by rw [beq_iff_eq];exact hk
    clear hk;go_wp2_with fail;refine(zeV _ b _ 109 5 _ HS.out.at' (by omega) (by first|omega|(simp [zi,zh];done)|(simp [zi,zh];omega))).mono ?_;rintro e w10 ⟨rfl,g1,g2,g3⟩;have HS:=zzH (HS.out.next g1 g2 g3);clear g1 g2 g3 c0 c1 c2 c3 c4 c5 c6 c7 c8 hlx;obtain⟨c0,c1,c2,c3,c4,c5,c6,c7,c8,cz⟩:=zg HS.out.box;have hlx:=zc HS.out.box;clear cz;go_wp2_with fail;refine(zcM _ b _ (t.bytes.size:Int) 4 _ HS.out.at' (by unfold I64;omega) (by omega) (by first|omega|(simp [zi,zh];done)|(simp [zi,zh];omega))).mono ?_;rintro e w11 ⟨rfl,g1,g2,g3⟩;exact zz151
   ·have hrb:(t.bits%8==0)=false:=zzB.2 hr
    have HE:Hid (zx t=77::(beN 4 t.bytes.size++(UInt8.ofNat (t.bits%8).toNat::t.bytes.data.toList))):=zzH (by unfold zx;simp [hk,hr]);have t1:(t.kind==1)=false:=by rw [zzq3];omega
    have t2:(t.kind==2)=false:=by rw [zzq3];omega
    have t7:(t.kind==7)=false:=by rw [zzq3];omega
    have t8:(t.kind==8)=false:=by rw [zzq3];omega
    have t9:(t.kind==9)=false:=by rw [zzq3];omega
    have t10:(t.kind==10)=true:=by rw [beq_iff_eq];exact hk
    clear hk;go_wp2_with fail;refine(zeV _ b _ 77 5 _ HS.out.at' (by omega) (by first|omega|(simp [zi,zh];done)|(simp [zi,zh];omega))).mono ?_;rintro e w10 ⟨rfl,g1,g2,g3⟩;have HS:=zzH (HS.out.next g1 g2 g3);clear g1 g2 g3 c0 c1 c2 c3 c4 c5 c6 c7 c8 hlx;obtain⟨c0,c1,c2,c3,c4,c5,c6,c7,c8,cz⟩:=zg HS.out.box;have hlx:=zc HS.out.box;clear cz;go_wp2_with fail;refine(zcM _ b _ (t.bytes.size:Int) 4 _ HS.out.at' (by unfold I64;omega) (by omega) (by first|omega|(simp [zi,zh];done)|(simp [zi,zh];omega))).mono ?_;rintro e w11 ⟨rfl,g1,g2,g3⟩;have HS:=zzH (HS.out.next g1 g2 g3);clear g1 g2 g3 c0 c1 c2 c3 c4 c5 c6 c7 c8 hlx;obtain⟨c0,c1,c2,c3,c4,c5,c6,c7,c8,cz⟩:=zg HS.out.box;have hlx:=zc HS.out.box;clear cz;go_wp2_with fail;refine(zeV _ b _ (t.bits%8) 5 _ HS.out.at' (by omega) (by first|omega|(simp [zi,zh];done)|(simp [zi,zh];omega))).mono ?_;rintro e w12 ⟨rfl,g1,g2,g3⟩;exact zz151
  by_cases hk:t.kind=6
  ·have hn:zw t.name=true:=by unfold okK at hokK;simp [hk]at hokK;exact hokK.2
   have:=zJ hn;have HE:Hid (zx t=88::(zE t.name++(beN 4 t.int++(beN 4 0++beN 4 t.gen)))):=zzH (by unfold zx;simp [hk]);have t1:(t.kind==1)=false:=by rw [zzq3];omega
   have t2:(t.kind==2)=false:=by rw [zzq3];omega
   have t7:(t.kind==7)=false:=by rw [zzq3];omega
   have t8:(t.kind==8)=false:=by rw [zzq3];omega
   have t9:(t.kind==9)=false:=by rw [zzq3];omega
   have t10:(t.kind==10)=false:=by rw [zzq3];omega
   have t6:(t.kind==6)=true:=by rw [beq_iff_eq];exact hk
   clear hk;go_wp2_with fail;refine(zeV _ b _ 88 5 _ HS.out.at' (by omega) (by first|omega|(simp [zi,zh];done)|(simp [zi,zh];omega))).mono ?_;rintro e w10 ⟨rfl,g1,g2,g3⟩;have HS:=zzH (HS.out.next g1 g2 g3);clear g1 g2 g3 c0 c1 c2 c3 c4 c5 c6 c7 c8 hlx;obtain⟨c0,c1,c2,c3,c4,c5,c6,c7,c8,cz⟩:=zg HS.out.box;have hlx:=zc HS.out.box;clear cz;go_wp2_with fail;refine(ze6 _ b _ t.name _ HS.out.at' (zJ hn) (by first|omega|(simp [zi,zh];done)|(simp [zi,zh];omega))).mono ?_;rintro e w11 ⟨rfl,g1,g2,g3⟩;have HS:=zzH (HS.out.next g1 g2 g3);clear g1 g2 g3 c0 c1 c2 c3 c4 c5 c6 c7 c8 hlx;obtain⟨c0,c1,c2,c3,c4,c5,c6,c7,c8,cz⟩:=zg HS.out.box;have hlx:=zc HS.out.box;clear cz;go_wp2_with fail;refine(zcM _ b _ t.int 4 _ HS.out.at' ok1 (by omega) (by first|omega|(simp [zi,zh];done)|(simp [zi,zh];omega))).mono ?_;rintro e w12 ⟨rfl,g1,g2,g3⟩;have HS:=zzH (HS.out.next g1 g2 g3);clear g1 g2 g3 c0 c1 c2 c3 c4 c5 c6 c7 c8 hlx;obtain⟨c0,c1,c2,c3,c4,c5,c6,c7,c8,cz⟩:=zg HS.out.box;have hlx:=zc HS.out.box;clear cz;go_wp2_with fail;refine(zcM _ b _ 0 4 _ HS.out.at' (by unfold I64;omega) (by omega) (by first|omega|(simp [zi,zh];done)|(simp [zi,zh];omega))).mono ?_;exact zz152
  by_cases hk:t.kind=3
  ·have hn:zw t.name=true:=by unfold okK at hokK;simp [hk]at hokK;exact hokK.2
   have:=zJ hn;have HE:Hid (zx t=90::0::1::(zE t.name++(beN 4 t.gen++beN 4 t.int))):=zzH (by unfold zx;simp [hk]);have t1:(t.kind==1)=false:=by rw [zzq3];omega
   have t2:(t.kind==2)=false:=by rw [zzq3];omega
   have t7:(t.kind==7)=false:=by rw [zzq3];omega
   have t8:(t.kind==8)=false:=by rw [zzq3];omega
   have t9:(t.kind==9)=false:=by rw [zzq3];omega
   have t10:(t.kind==10)=false:=by rw [zzq3];omega
   have t6:(t.kind==6)=false:=by rw [zzq3];omega
   have t3:(t.kind==3)=true:=by rw [beq_iff_eq];exact hk
   clear hk;go_wp2_with fail;refine(zul _ b _ 90 0 1 5 _ HS.out.at' (by omega) (by omega) (by omega) (by first|omega|(simp [zi,zh];done)|(simp [zi,zh];omega))).mono ?_;rintro e w10 ⟨rfl,g1,g2,g3⟩;have HS:=zzH (HS.out.next g1 g2 g3);clear g1 g2 g3 c0 c1 c2 c3 c4 c5 c6 c7 c8 hlx;obtain⟨c0,c1,c2,c3,c4,c5,c6,c7,c8,cz⟩:=zg HS.out.box;have hlx:=zc HS.out.box;clear cz;go_wp2_with fail;refine(ze6 _ b _ t.name _ HS.out.at' (zJ hn) (by first|omega|(simp [zi,zh];done)|(simp [zi,zh];omega))).mono ?_;rintro e w11 ⟨rfl,g1,g2,g3⟩;have HS:=zzH (HS.out.next g1 g2 g3);clear g1 g2 g3 c0 c1 c2 c3 c4 c5 c6 c7 c8 hlx;obtain⟨c0,c1,c2,c3,c4,c5,c6,c7,c8,cz⟩:=zg HS.out.box;have hlx:=zc HS.out.box;clear cz;go_wp2_with fail;refine(zcM _ b _ t.gen 4 _ HS.out.at' ok2 (by omega) (by first|omega|(simp [zi,zh];done)|(simp [zi,zh];omega))).mono ?_;rintro e w12 ⟨rfl,g1,g2,g3⟩;have HS:=zzH (HS.out.next g1 g2 g3);clear g1 g2 g3 c0 c1 c2 c3 c4 c5 c6 c7 c8 hlx;obtain⟨c0,c1,c2,c3,c4,c5,c6,c7,c8,cz⟩:=zg HS.out.box;have hlx:=zc HS.out.box;clear cz;go_wp2_with fail;refine(zcM _ b _ t.int 4 _ HS.out.at' ok1 (by omega) (by first|omega|(simp [zi,zh];done)|(simp [zi,zh];omega))).mono ?_;exact zz154
  by_cases hk:t.kind=5
  ·have hn:zw t.name=true/\zw t.func=true:=by unfold okK at hokK;simp [hk]at hokK;exact hokK.1
   have:=zJ hn.1;have:=zJ hn.2;have HE:Hid (zx t=113::(zE t.name++(zE t.func++zbJ t.arity))):=zzH (by unfold zx;simp [hk]);have t1:(t.kind==1)=false:=by rw [zzq3];omega
   have t2:(t.kind==2)=false:=by rw [zzq3];omega
   have t7:(t.kind==7)=false:=by rw [zzq3];omega
   have t8:(t.kind==8)=false:=by rw [zzq3];omega
   have t9:(t.kind==9)=false:=by rw [zzq3];omega
   have t10:(t.kind==10)=false:=by rw [zzq3];omega
   have t6:(t.kind==6)=false:=by rw [zzq3];omega
   have t3:(t.kind==3)=false:=by rw [zzq3];omega
   have t5:(t.kind==5)=true:=by rw [beq_iff_eq];exact hk
   clear hk;go_wp2_with fail;refine(zeV _ b _ 113 5 _ HS.out.at' (by omega) (by first|omega|(simp [zi,zh];done)|(simp [zi,zh];omega))).mono ?_;rintro e w10 ⟨rfl,g1,g2,g3⟩;have HS:=zzH (HS.out.next g1 g2 g3);clear g1 g2 g3 c0 c1 c2 c3 c4 c5 c6 c7 c8 hlx;obtain⟨c0,c1,c2,c3,c4,c5,c6,c7,c8,cz⟩:=zg HS.out.box;have hlx:=zc HS.out.box;clear cz;go_wp2_with fail;refine(ze6 _ b _ t.name _ HS.out.at' (zJ hn.1) (by first|omega|(simp [zi,zh];done)|(simp [zi,zh];omega))).mono ?_;rintro e w11 ⟨rfl,g1,g2,g3⟩;have HS:=zzH (HS.out.next g1 g2 g3);clear g1 g2 g3 c0 c1 c2 c3 c4 c5 c6 c7 c8 hlx;obtain⟨c0,c1,c2,c3,c4,c5,c6,c7,c8,cz⟩:=zg HS.out.box;have hlx:=zc HS.out.box;clear cz;go_wp2_with fail;refine(ze6 _ b _ t.func _ HS.out.at' (zJ hn.2) (by first|omega|(simp [zi,zh];done)|(simp [zi,zh];omega))).mono ?_;rintro e w12 ⟨rfl,g1,g2,g3⟩;have HS:=zzH (HS.out.next g1 g2 g3);clear g1 g2 g3 c0 c1 c2 c3 c4 c5 c6 c7 c8 hlx;obtain⟨c0,c1,c2,c3,c4,c5,c6,c7,c8,cz⟩:=zg HS.out.box;have hlx:=zc HS.out.box;clear cz;go_wp2_with fail;refine(zhI _ b _ t.arity _ HS.out.at' ok5 (by first|omega|(simp [zi,zh];done)|(simp [zi,zh];omega))).mono ?_;exact zz154
  by_cases hk:t.kind=4
  ·have hn:wi t.arity 0 16=true/\zw t.name=true/\t.items.length<=200:=by unfold okK at hokK;simp [hk]at hokK;exact⟨hokK.1.2,hokK.1.1.2,hokK.2⟩
   have:=zJ hn.2.1;have ha:=zeQ hn.1;obtain⟨ha1,ha2⟩:=ha;have hi2:=hn.2.2;have HE:Hid (zx t=112::UInt8.ofNat t.arity.toNat::(beN 2 t.int++(UInt8.ofNat t.items.length::(zE t.name++beN 4 t.gen)))):=zzH (by unfold zx;simp [hk]);have t1:(t.kind==1)=false:=by rw [zzq3];omega
   have t2:(t.kind==2)=false:=by rw [zzq3];omega
   have t7:(t.kind==7)=false:=by rw [zzq3];omega
   have t8:(t.kind==8)=false:=by rw [zzq3];omega
   have t9:(t.kind==9)=false:=by rw [zzq3];omega
   have t10:(t.kind==10)=false:=by rw [zzq3];omega
   have t6:(t.kind==6)=false:=by rw [zzq3];omega
   have t3:(t.kind==3)=false:=by rw [zzq3];omega
   have t5:(t.kind==5)=false:=by rw [zzq3];omega
   have t4:(t.kind==4)=true:=by rw [beq_iff_eq];exact hk
   clear hk;go_wp2_with fail;refine(zj9 _ b _ 112 t.arity 5 _ HS.out.at' (by omega) (by omega) (by first|omega|(simp [zi,zh];done)|(simp [zi,zh];omega))).mono ?_;rintro e w10 ⟨rfl,g1,g2,g3⟩;have HS:=zzH (HS.out.next g1 g2 g3);clear g1 g2 g3 c0 c1 c2 c3 c4 c5 c6 c7 c8 hlx;obtain⟨c0,c1,c2,c3,c4,c5,c6,c7,c8,cz⟩:=zg HS.out.box;have hlx:=zc HS.out.box;clear cz;go_wp2_with fail;refine(zcM _ b _ t.int 2 _ HS.out.at' ok1 (by omega) (by first|omega|(simp [zi,zh];done)|(simp [zi,zh];omega))).mono ?_;rintro e w11 ⟨rfl,g1,g2,g3⟩;have HS:=zzH (HS.out.next g1 g2 g3);clear g1 g2 g3 c0 c1 c2 c3 c4 c5 c6 c7 c8 hlx;obtain⟨c0,c1,c2,c3,c4,c5,c6,c7,c8,cz⟩:=zg HS.out.box;have hlx:=zc HS.out.box;clear cz;go_wp2_with fail;refine(zeV _ b _ (t.items.length:Int) 5 _ HS.out.at' (by omega) (by first|omega|(simp [zi,zh];done)|(simp [zi,zh];omega))).mono ?_;rintro e w12 ⟨rfl,g1,g2,g3⟩;have HS:=zzH (HS.out.next g1 g2 g3);clear g1 g2 g3 c0 c1 c2 c3 c4 c5 c6 c7 c8 hlx;obtain⟨c0,c1,c2,c3,c4,c5,c6,c7,c8,cz⟩:=zg HS.out.box;have hlx:=zc HS.out.box;clear cz;go_wp2_with fail;refine(ze6 _ b _ t.name _ HS.out.at' (zJ hn.2.1) (by first|omega|(simp [zi,zh];done)|(simp [zi,zh];omega))).mono ?_;exact zz152
  exact absurd hokK (by rw [zeD (by omega)];decide)
 case rest=>
  rename_i wx;have HS:=hcut;clear hcut;clear c0 c1 c2 c3 c4 c5 c6 c7 c8 hlx;obtain⟨c0,c1,c2,c3,c4,c5,c6,c7,c8,cz⟩:=zg HS.out.box;have hlx:=zc HS.out.box;clear cz hokK hhl;go_wp2_with fail;go_loopw [5,163] (fun _ iv wr=> ∃(k:Nat) (l':List UInt8),k<=t.items.length/\iv= .int .i64 k/\Hid (T=l'++(t.items.drop k).flatMap (zF f))/\Hid (Wst w0.heap.size b X t so c w l' wr)) (fun _ iv _=>t.items.length-(intOf iv).toNat)
  case atStart=>exact⟨0,_,zzZ _,rfl,HT,HS⟩
  case round=>
   obtain⟨k,l',hk,rfl,HV,HW⟩:=hrel;rename World=>wr
   by_cases hlt:k<t.items.length
   ·obtain⟨b2,off,ai,ci,hao,hb2,q0,q1,q2,q3,q4,q5,q6,q7,q8,hcall⟩:=HREC.out k wr hlt (HB0.out.trans (HW.out.bel.mono (zzL _)))
    subst hao;have HV2:Hid (T=(l'++zF f t.items[k])++(t.items.drop (k+1)).flatMap (zF f)):=zzH (by rw [HV.out,List.drop_eq_getElem_cons hlt,List.flatMap_cons,zzq4])
    have hlen2:l'.length+(zF f t.items[k]).length<=17592186044416:=by
     have h1:=HTL.out;rw [HV2.out,zzq1,zzq1]at h1;omega
    have hbw:Below wr.heap.size wr (wr.alloc (.cells (zzt t.items[k] ai ci) 55)):=zzE _ _;have HW1:=zzH (HW.out.below hbw);have hcl:=hcall l' _ (HB0.out.trans (HW1.out.bel.mono (zzL _))) HW1.out.at' hlen2;have HCL:=zzH hcl;clear hcl hcall hbw hlen2;generalize zF f t.items[k]=cx at *;generalize t.items[k]=u at *;go_wp2_with fail;refine HCL.out.mono ?_;rintro e w5 ⟨rfl,g1,g2,g3⟩;have HW2:=zzH (HW1.out.next g1 g2 g3);clear g1 g2 g3;go_wp2_with fail;go_roundw
    case rel=>exact⟨k+1,_,by omega,by go_num,HV2,HW2⟩
    case measure=>simp [intOf];omega
   ·have HV2:Hid (T=l'):=zzH (by rw [HV.out,zzq8 (by omega)];simp)
    go_wp2_with fail;go_end0;exact⟨rfl,by rw [HV2.out];exact HW.out.at',HW.out.bel,HW.out.st⟩
theorem zpe (f:Nat):zk8 f:=by
 induction f with
 |zero=>exact zik 0 (fun f' h=>absurd h (by omega))
 |succ f ih=>exact zik (f+1) (fun f' h=>by
   have:f'=f:=by omega
   subst this;exact ih)
def zfU (w:World) (l:List UInt8) (e:Ending) (w':World):Prop:= ∃v,e= .returned v/\w'.ownsRow w.heap.size 5 1 v l.length (zo l)/\Below w.heap.size w w'
theorem zjt {w:World} {B B' size n:Nat} {e:TypeId} {v:Value} {xs:List Value} (h:w.ownsRow B e size v n xs) (hb:B'<=B):w.ownsRow B' e size v n xs:=
 ⟨h.1,h.2.elim .inl fun⟨g,cap,cur,h1,h2,h3⟩=>.inr ⟨g,cap,cur,h1,zzY hb h2,h3⟩⟩
theorem zii {w w':World} {B size n:Nat} {e:TypeId} {v:Value} {xs:List Value} (h:w.ownsRow B e size v n xs) (hb:Below w.heap.size w w'):w'.ownsRow B e size v n xs:=
 h.kept (zbr hb none) (by cases hv:v.ownBlock<;>simp)
theorem zlQ (k:Nat):(madeCells (Value.int .u8 0).cells (k*1)).toList=zo (List.replicate k 0):=by
 simp [madeCells,zo,Value.cells,Nat.mod_one];exact List.eq_replicate_iff.2 ⟨by simp,by simp⟩
theorem zmb {α:Type} (a x:α) (r:List α): ∀m,(List.replicate (m+1) a++r).set m x=List.replicate m a++x::r
 |0=>rfl
 |m+1=>by
  show(a::(List.replicate (m+1) a++r)).set (m+1) x=a::(List.replicate m a++x::r);rw [List.set_cons_succ,zmb a x r m]
theorem zoZ (m:Nat) (x:UInt8) (r:List UInt8):(zo (List.replicate (m+1) 0++r)).set m (.int .u8 (x.toNat:Int))=zo (List.replicate m 0++x::r):=by
 unfold zo;rw [List.map_append,List.map_replicate,zmb,List.map_append,List.map_replicate];rfl
theorem zsT (n:Int) (j:Nat):n/2^(8*j)/256=n/2^(8*(j+1)):=by
 rw [Int.ediv_ediv_of_nonneg (by exact Int.pow_nonneg (by decide)),show 8*(j+1)=8*j+8 by omega,Int.pow_add];rfl
theorem zb9 (n:Int) (k:Nat) (w:World) (hn:I64 n) (hk:k<=8):
  Calls Tryz.prog 134 #[.int .i64 n,.int .i64 k] w (zfU w (beN k n)):=by
 obtain⟨i0,hi,hz0,hz1,hz2⟩:=info_parts zdw;have HN:Hid (n=n/2^(8*0)):=zzH (by simp);obtain⟨n0,n1⟩:=hn;go_in;go_wp2_with (refine wpList_make_full w rfl (.tmp 7) (.tmp 7) 65 rfl w.heap.size 5 i0 (.int .u8 0) 1 Tryz.underlying65 hi hz0 hz1 .i64 .i64 (k:Int) (k:Int) k rfl rfl rfl rfl (by rw [hz2];omega) (by unfold maxLen;omega) (zzL _) ?_;intro w1 hown hgrow);have HO:Hid (w1.ownsRow w.heap.size 5 1 (.slice (some ⟨w.heap.size,0,none⟩) k k) k (zo (List.replicate k 0++beN 0 n))):=zzH (by rw [zlQ]at hown;show World.ownsRow _ _ _ _ _ _ (zo (List.replicate k 0++ []));rw [List.append_nil];exact hown);have HB:Hid (Below w.heap.size w w1):=zzH ((zzR _ _).grown hgrow (zzL _) (fun k hk=>by cases hk));clear hown hgrow;generalize hg:w.heap.size=g at *;have HG:=zzH hg;clear hg;go_wp2_with fail;go_loopw [0,6] (fun nv iv wr=> ∃m j:Nat,m+j=k/\nv= .int .i64 (n/2^(8*j))/\iv= .int .i64 ((m:Int)-1)/\Hid (wr.ownsRow g 5 1 (.slice (some ⟨g,0,none⟩) k k) k (zo (List.replicate m 0++beN j n)))/\Hid (Below g w wr)) (fun _ iv _=>(intOf iv+1).toNat)
 case atStart=>exact⟨k,0,rfl,by rw [<-HN.out],rfl,HO,HB⟩
 case round=>
  obtain⟨m,j,hmj,rfl,rfl,HOk,HBk⟩:=hrel;rename World=>wr
  cases m with
  |succ m=>
   have e1:((m+1:Nat):Int)-1=(m:Int):=by omega
   rw [e1];have HD:=zzH (zsT n j);have HX:Hid (n/2^(8*j)%256=((UInt8.ofNat (n/2^(8*j)%256).toNat).toNat:Int)):=zzH (by rw [UInt8.toNat_ofNat'];omega)
   have hd0: -9223372036854775808<=n/2^(8*j):=by
    have h9:(0:Int)<2^(8*j):=Int.pow_pos (by decide);rcases Int.le_total 0 n with h|h
    ·exact Int.le_trans (by decide) (Int.ediv_nonneg h (Int.le_of_lt h9))
    ·exact Int.le_trans n0 (Int.le_ediv_of_mul_le h9 (by have:=Int.mul_le_mul_of_nonpos_left h (show(1:Int)<=2^(8*j)by omega);omega))
   have hd1:n/2^(8*j)<=9223372036854775807:=by
    have h9:(0:Int)<2^(8*j):=Int.pow_pos (by decide);rcases Int.le_total 0 n with h|h
    ·exact Int.le_trans (Int.ediv_le_self _ h) n1
    ·exact Int.le_trans (Int.ediv_le_ediv h9 h) (by rw [Int.zero_ediv];decide)
   have hca:wr.cell? ⟨g,m,none⟩=some (.int .u8 0):=by
    rw [HOk.out.cellAt m (by omega)];unfold zo;rw [List.map_append,List.getElem?_append_left (by simp),List.getElem?_map,List.getElem?_replicate,if_pos (by omega)];rfl
   have hfa:=HOk.out.frozenAt m;have hst:=HOk.out.stored m (.int .u8 ((UInt8.ofNat (n/2^(8*j)%256).toNat).toNat:Int));rw [zoZ]at hst;have HO2:Hid (∀v,v=Value.int .u8 ((UInt8.ofNat (n/2^(8*j)%256).toNat).toNat:Int)->(wr.setCell ⟨g,m,none⟩ v).ownsRow g 5 1 (.slice (some ⟨g,0,none⟩) k k) k (zo (List.replicate m 0++beN (j+1) n))):=zzH (fun v hv=>by rw [hv];exact hst.1);have HB2:Hid (∀v,Below g w (wr.setCell ⟨g,m,none⟩ v)):=zzH (fun v=>HBk.out.setCell (p:=⟨g,m,none⟩) (zzL _) _);have hmk:(m:Int)<(k:Int):=by omega
   have hm0:(0:Int)<=(m:Int):=by omega
   clear hst e1;generalize n/2^(8*j)=q at *;go_wp2_with fail;go_roundw
   case rel=>exact⟨m,j+1,by omega,by rw [<-HD.out],rfl,zzH (HO2.out _ (by rw [<-HX.out])),zzH (HB2.out _)⟩
   case measure=>simp [intOf]
  |zero=>
   obtain rfl:j=k:=by omega
   have HF:Hid (wr.ownsRow g 5 1 (.slice (some ⟨g,0,none⟩) j j) (beN j n).length (zo (beN j n))):=zzH (by rw [zi];exact HOk.out);go_wp2;go_ret;exact⟨_,rfl,by rw [HG.out];exact HF.out,by rw [HG.out];exact HBk.out⟩
theorem zff {w:World} {B:Nat} (cs:Array Value) (l:List UInt8) (n:Nat) (hb:B<=w.heap.size) (hn:n=l.length) (hcs:cs.toList=zo l) (hm:n<=1000):(w.alloc (.cells cs 5)).ownsRow B 5 1 (.slice (some ⟨w.heap.size,0,none⟩) n n) n (zo l):=by
 have h:=World.ownsRow_lit (base:=B) (size:=1) (e:=5) w cs n hb (by unfold maxLen;omega) (by have:=congrArg List.length hcs;rw [zbf,Array.length_toList]at this;omega)
 rwa [hcs]at h
theorem zdW (s:ByteArray) (w:World) (hs:s.size<=32):
  Calls Tryz.prog 133 #[.string s] w (zfU w (zE s)):=by
 obtain⟨i0,hi,hz0,hz1,hz2⟩:=info_parts zdw;have HA:Hid (zo (zE s)=zo [119,UInt8.ofNat s.size]++Lib.strCells s/\(zE s).length=2+s.size):=zzH ⟨by unfold zE zo Lib.strCells;simp,by rw [zh];omega⟩;have hown:=zff (w:=w) (B:=w.heap.size) #[.int .u8 119,.int .u8 s.size] [119,UInt8.ofNat s.size] 2 (zzL _) rfl (by simp [zo];omega) (by omega);have hb:Below w.heap.size w (w.alloc (.cells #[.int .u8 119,.int .u8 s.size] 5)):=zzE _ _;generalize zE s=T at *;go_in;go_wp2_with (at_builtin;refine Lib.wpList_append_own_string _ rfl (.tmp 6) (.tmp 7) 65 9 rfl w.heap.size 5 i0 Tryz.underlying65 Tryz.underlying9 hi hz0 hz1 hz2 _ 2 (zo [119,UInt8.ofNat s.size]) rfl hown s rfl (by unfold maxLen;omega) (by omega) (by simp) ?_);intro v' w2 hown' hgrow hnil;have HF:Hid (w2.ownsRow w.heap.size 5 1 v' T.length (zo T)/\Below w.heap.size w w2):=zzH ⟨by rw [HA.out.1,HA.out.2];exact hown',hb.grown hgrow (by simp) (fun k hk=>(hown.lt k hk).1)⟩;clear hown hown' hgrow hnil hb;go_wp2;go_ret;exact⟨_,rfl,HF.out⟩
def rrT:List (List UInt8 × Int × Int):=[([],0,0),([100,115],1,1),([100,115,108],0,255),([100,115,108],2,2),([100,115,110,108],0,200),([100,115,110],1,1),([100,115],1,1),([100,115],1,1),([116],0,0),([115,110,116],1,1),([115,116],1,1),([115,116],2,2),([115,99,116],1,1),([100,115,119,116,108],0,255),([100,115,119,108],0,3),([110,119],0,0),([110],0,0),([110],0,0),([115,110],2,2),([115,110],2,2),([115,110],1,1),([115,110],1,1),([115],2,3),([115],2,3),([110],0,0),([],0,0),([],0,0),([115],2,2),([116],0,0),([],0,0),([115,116],1,1),([100,115,110,116,108],1,1),([100,115,110,116,108],1,1),([100,110,116,108],0,0),([116],0,0),([100,103,108],0,0),([115],0,1),([116],0,0),([],0,0),([116],0,0),([116],0,0)]
def zRow:RRow:=⟨false,false,false,false,false,false,false,false,0,0⟩
def zeC (op:Int):RRow:=if zdi op=true then(match rrT[op.toNat]? with|some (l,lo,hi)=>zbe l lo hi|none=>zRow)else zRow
theorem zmj (k:Nat) (h1:1<=k) (h2:k<41):zeC (k:Int)=zbe (rrT[k]'h2).1 (rrT[k]'h2).2.1 (rrT[k]'h2).2.2:=by
 unfold zeC zdi;rw [if_pos (decide_eq_true (by omega)),zzq16,zzq11 (by exact h2)]
theorem ztg {op:Int} (h: ¬(1<=op/\op<=40)):zeC op=zRow:=by
 unfold zeC zdi;rw [if_neg (by rw [zzq7];exact h)]
theorem zph: ∀k:Nat,(h:k<41)->1<=k->(zbe (rrT[k]'h).1 (rrT[k]'h).2.1 (rrT[k]'h).2.2).a=zm (rowT[k]'h).1.toNat 1/\(zbe (rrT[k]'h).1 (rrT[k]'h).2.1 (rrT[k]'h).2.2).b=zm (rowT[k]'h).1.toNat 2/\(zbe (rrT[k]'h).1 (rrT[k]'h).2.1 (rrT[k]'h).2.2).c=zm (rowT[k]'h).1.toNat 4 /\
  (zbe (rrT[k]'h).1 (rrT[k]'h).2.1 (rrT[k]'h).2.2).d=zm (rowT[k]'h).1.toNat 8/\(zbe (rrT[k]'h).1 (rrT[k]'h).2.1 (rrT[k]'h).2.2).e=zm (rowT[k]'h).1.toNat 16/\(zbe (rrT[k]'h).1 (rrT[k]'h).2.1 (rrT[k]'h).2.2).f=zm (rowT[k]'h).1.toNat 32 /\
  (zbe (rrT[k]'h).1 (rrT[k]'h).2.1 (rrT[k]'h).2.2).g=zm (rowT[k]'h).1.toNat 64/\(zbe (rrT[k]'h).1 (rrT[k]'h).2.1 (rrT[k]'h).2.2).h=zm (rowT[k]'h).1.toNat 128/\(rrT[k]'h).2.1=(rowT[k]'h).2.1/\(rrT[k]'h).2.2=(rowT[k]'h).2.2:=by decide +kernel
theorem zi6 {op:Int} (h:1<=op/\op<=40):zeC op=⟨zm (zr op).1.toNat 1,zm (zr op).1.toNat 2,zm (zr op).1.toNat 4,zm (zr op).1.toNat 8,zm (zr op).1.toNat 16,zm (zr op).1.toNat 32,zm (zr op).1.toNat 64,zm (zr op).1.toNat 128,(zr op).2.1,(zr op).2.2⟩:=by
 obtain⟨k,rfl⟩: ∃k:Nat,op=(k:Int):=⟨op.toNat,by omega⟩;have hk:k<41:=by omega
 have hra:zr (k:Int)=rowT[k]'hk:=by unfold zr;rw [zzq16,zzq11 (by exact hk)];rfl
 rw [zmj k (by omega) hk,hra];obtain⟨e1,e2,e3,e4,e5,e6,e7,e8,e9,e10⟩:=zph k hk (by omega);rw [<-e1,<-e2,<-e3,<-e4,<-e5,<-e6,<-e7,<-e8,<-e9,<-e10]
 rfl
theorem zkQ {w w1:World} {cs:Array Value} (hb:Below (w.alloc (.cells cs 148)).heap.size (w.alloc (.cells cs 148)) w1):w1.heap[w.heap.size]?=some (.cells cs 148 (0,0)):=
 (hb.block _ (by simp)).trans (zzF _ _)
theorem ztD (w:World):Calls Tryz.prog 125 #[.int .i64 16] w fun e w'=>e= .returned (.tuple #[.agg (zbe [110] 0 0).val,.bool true])/\Below w.heap.size w w':=by
 exact zz160
theorem ztm (w:World):Calls Tryz.prog 125 #[.int .i64 17] w fun e w'=>e= .returned (.tuple #[.agg (zbe [110] 0 0).val,.bool true])/\Below w.heap.size w w':=by
 exact zz160
theorem ztq (w:World):Calls Tryz.prog 125 #[.int .i64 18] w fun e w'=>e= .returned (.tuple #[.agg (zbe [115,110] 2 2).val,.bool true])/\Below w.heap.size w w':=by
 exact zz160
theorem zsC (w:World):Calls Tryz.prog 125 #[.int .i64 19] w fun e w'=>e= .returned (.tuple #[.agg (zbe [115,110] 2 2).val,.bool true])/\Below w.heap.size w w':=by
 exact zz160
theorem zsy (w:World):Calls Tryz.prog 125 #[.int .i64 20] w fun e w'=>e= .returned (.tuple #[.agg (zbe [115,110] 1 1).val,.bool true])/\Below w.heap.size w w':=by
 exact zz160
theorem ztj (w:World):Calls Tryz.prog 125 #[.int .i64 21] w fun e w'=>e= .returned (.tuple #[.agg (zbe [115,110] 1 1).val,.bool true])/\Below w.heap.size w w':=by
 exact zz160
theorem zsb (w:World):Calls Tryz.prog 125 #[.int .i64 22] w fun e w'=>e= .returned (.tuple #[.agg (zbe [115] 2 3).val,.bool true])/\Below w.heap.size w w':=by
 exact zz160
theorem ztd (w:World):Calls Tryz.prog 125 #[.int .i64 23] w fun e w'=>e= .returned (.tuple #[.agg (zbe [115] 2 3).val,.bool true])/\Below w.heap.size w w':=by
 exact zz160
theorem ztA (w:World):Calls Tryz.prog 125 #[.int .i64 24] w fun e w'=>e= .returned (.tuple #[.agg (zbe [110] 0 0).val,.bool true])/\Below w.heap.size w w':=by
 exact zz160
theorem zsM (w:World):Calls Tryz.prog 125 #[.int .i64 25] w fun e w'=>e= .returned (.tuple #[.agg (zbe [] 0 0).val,.bool true])/\Below w.heap.size w w':=by
 exact zz161
theorem zsl (w:World):Calls Tryz.prog 125 #[.int .i64 26] w fun e w'=>e= .returned (.tuple #[.agg (zbe [] 0 0).val,.bool true])/\Below w.heap.size w w':=by
 exact zz161
theorem zst (w:World):Calls Tryz.prog 125 #[.int .i64 27] w fun e w'=>e= .returned (.tuple #[.agg (zbe [115] 2 2).val,.bool true])/\Below w.heap.size w w':=by
 exact zz160
theorem ztw (w:World):Calls Tryz.prog 125 #[.int .i64 29] w fun e w'=>e= .returned (.tuple #[.agg (zbe [] 0 0).val,.bool true])/\Below w.heap.size w w':=by
 exact zz161
theorem zsE (w:World):Calls Tryz.prog 125 #[.int .i64 31] w fun e w'=>e= .returned (.tuple #[.agg (zbe [100,115,110,116,108] 1 1).val,.bool true])/\Below w.heap.size w w':=by
 exact zz160
theorem zsK (w:World):Calls Tryz.prog 125 #[.int .i64 32] w fun e w'=>e= .returned (.tuple #[.agg (zbe [100,115,110,116,108] 1 1).val,.bool true])/\Below w.heap.size w w':=by
 exact zz160
theorem zsu (w:World):Calls Tryz.prog 125 #[.int .i64 33] w fun e w'=>e= .returned (.tuple #[.agg (zbe [100,110,116,108] 0 0).val,.bool true])/\Below w.heap.size w w':=by
 exact zz160
theorem zs5 (w:World):Calls Tryz.prog 125 #[.int .i64 35] w fun e w'=>e= .returned (.tuple #[.agg (zbe [100,103,108] 0 0).val,.bool true])/\Below w.heap.size w w':=by
 exact zz160
theorem ztv (w:World):Calls Tryz.prog 125 #[.int .i64 36] w fun e w'=>e= .returned (.tuple #[.agg (zbe [115] 0 1).val,.bool true])/\Below w.heap.size w w':=by
 exact zz160
theorem zsI (w:World):Calls Tryz.prog 125 #[.int .i64 38] w fun e w'=>e= .returned (.tuple #[.agg (zbe [] 0 0).val,.bool true])/\Below w.heap.size w w':=by
 exact zz161
theorem zs1 (op:Int) (w:World) (h: ¬(1<=op/\op<=40)):Calls Tryz.prog 125 #[.int .i64 op] w fun e w'=>e= .returned (.tuple #[.agg zRow.val,.bool false])/\Below w.heap.size w w':=by
 have b16:(op==16)=false:=zzB.2 (by omega);have b17:(op==17)=false:=zzB.2 (by omega);have b18:(op==18)=false:=zzB.2 (by omega);have b19:(op==19)=false:=zzB.2 (by omega);have b20:(op==20)=false:=zzB.2 (by omega);have b21:(op==21)=false:=zzB.2 (by omega);have b22:(op==22)=false:=zzB.2 (by omega);have b23:(op==23)=false:=zzB.2 (by omega);have b24:(op==24)=false:=zzB.2 (by omega);have b25:(op==25)=false:=zzB.2 (by omega);have b26:(op==26)=false:=zzB.2 (by omega);have b27:(op==27)=false:=zzB.2 (by omega);have b29:(op==29)=false:=zzB.2 (by omega);have b31:(op==31)=false:=zzB.2 (by omega);have b32:(op==32)=false:=zzB.2 (by omega);have b33:(op==33)=false:=zzB.2 (by omega);have b35:(op==35)=false:=zzB.2 (by omega);have b36:(op==36)=false:=zzB.2 (by omega);have b38:(op==38)=false:=zzB.2 (by omega);clear h;exact zz161
theorem zsO (w:World):Calls Tryz.prog 81 #[.int .i64 1] w fun e w'=>e= .returned (.tuple #[.agg (zbe [100,115] 1 1).val,.bool true])/\Below w.heap.size w w':=by
 exact zz160
theorem zsf (w:World):Calls Tryz.prog 81 #[.int .i64 6] w fun e w'=>e= .returned (.tuple #[.agg (zbe [100,115] 1 1).val,.bool true])/\Below w.heap.size w w':=by
 exact zz160
theorem zsX (w:World):Calls Tryz.prog 81 #[.int .i64 7] w fun e w'=>e= .returned (.tuple #[.agg (zbe [100,115] 1 1).val,.bool true])/\Below w.heap.size w w':=by
 exact zz160
theorem zs9 (w:World):Calls Tryz.prog 81 #[.int .i64 2] w fun e w'=>e= .returned (.tuple #[.agg (zbe [100,115,108] 0 255).val,.bool true])/\Below w.heap.size w w':=by
 exact zz160
theorem zsm (w:World):Calls Tryz.prog 81 #[.int .i64 3] w fun e w'=>e= .returned (.tuple #[.agg (zbe [100,115,108] 2 2).val,.bool true])/\Below w.heap.size w w':=by
 exact zz160
theorem zsx (w:World):Calls Tryz.prog 81 #[.int .i64 4] w fun e w'=>e= .returned (.tuple #[.agg (zbe [100,115,110,108] 0 200).val,.bool true])/\Below w.heap.size w w':=by
 exact zz160
theorem ztr (w:World):Calls Tryz.prog 81 #[.int .i64 5] w fun e w'=>e= .returned (.tuple #[.agg (zbe [100,115,110] 1 1).val,.bool true])/\Below w.heap.size w w':=by
 exact zz160
theorem ztI (w:World):Calls Tryz.prog 81 #[.int .i64 8] w fun e w'=>e= .returned (.tuple #[.agg (zbe [116] 0 0).val,.bool true])/\Below w.heap.size w w':=by
 exact zz160
theorem zrz (w:World):Calls Tryz.prog 81 #[.int .i64 28] w fun e w'=>e= .returned (.tuple #[.agg (zbe [116] 0 0).val,.bool true])/\Below w.heap.size w w':=by
 exact zz160
theorem zrf (w:World):Calls Tryz.prog 81 #[.int .i64 34] w fun e w'=>e= .returned (.tuple #[.agg (zbe [116] 0 0).val,.bool true])/\Below w.heap.size w w':=by
 exact zz160
theorem zqv (w:World):Calls Tryz.prog 81 #[.int .i64 37] w fun e w'=>e= .returned (.tuple #[.agg (zbe [116] 0 0).val,.bool true])/\Below w.heap.size w w':=by
 exact zz160
theorem zqu (w:World):Calls Tryz.prog 81 #[.int .i64 39] w fun e w'=>e= .returned (.tuple #[.agg (zbe [116] 0 0).val,.bool true])/\Below w.heap.size w w':=by
 exact zz160
theorem zqk (w:World):Calls Tryz.prog 81 #[.int .i64 40] w fun e w'=>e= .returned (.tuple #[.agg (zbe [116] 0 0).val,.bool true])/\Below w.heap.size w w':=by
 exact zz160
theorem zsa (w:World):Calls Tryz.prog 81 #[.int .i64 9] w fun e w'=>e= .returned (.tuple #[.agg (zbe [115,110,116] 1 1).val,.bool true])/\Below w.heap.size w w':=by
 exact zz160
theorem zrX (w:World):Calls Tryz.prog 81 #[.int .i64 10] w fun e w'=>e= .returned (.tuple #[.agg (zbe [115,116] 1 1).val,.bool true])/\Below w.heap.size w w':=by
 exact zz160
theorem zp5 (w:World):Calls Tryz.prog 81 #[.int .i64 30] w fun e w'=>e= .returned (.tuple #[.agg (zbe [115,116] 1 1).val,.bool true])/\Below w.heap.size w w':=by
 exact zz160
theorem zrn (w:World):Calls Tryz.prog 81 #[.int .i64 11] w fun e w'=>e= .returned (.tuple #[.agg (zbe [115,116] 2 2).val,.bool true])/\Below w.heap.size w w':=by
 exact zz160
theorem zrY (w:World):Calls Tryz.prog 81 #[.int .i64 12] w fun e w'=>e= .returned (.tuple #[.agg (zbe [115,99,116] 1 1).val,.bool true])/\Below w.heap.size w w':=by
 exact zz160
theorem zrS (w:World):Calls Tryz.prog 81 #[.int .i64 13] w fun e w'=>e= .returned (.tuple #[.agg (zbe [100,115,119,116,108] 0 255).val,.bool true])/\Below w.heap.size w w':=by
 exact zz160
theorem zrW (w:World):Calls Tryz.prog 81 #[.int .i64 14] w fun e w'=>e= .returned (.tuple #[.agg (zbe [100,115,119,108] 0 3).val,.bool true])/\Below w.heap.size w w':=by
 exact zz160
theorem zrr (w:World):Calls Tryz.prog 81 #[.int .i64 15] w fun e w'=>e= .returned (.tuple #[.agg (zbe [110,119] 0 0).val,.bool true])/\Below w.heap.size w w':=by
 exact zz160
theorem zbn (op:Int) (r:RRow) (q:Bool) (w:World) (hm: ∀wx,Calls Tryz.prog 125 #[.int .i64 op] wx fun e w'=>e= .returned (.tuple #[.agg r.val,.bool q])/\Below wx.heap.size wx w')
  (h:op≠1/\op≠6/\op≠7/\op≠2/\op≠3/\op≠4/\op≠5/\op≠8/\op≠28/\op≠34/\op≠37/\op≠39/\op≠40/\op≠9/\op≠10/\op≠30/\op≠11/\op≠12/\op≠13/\op≠14/\op≠15):Calls Tryz.prog 81 #[.int .i64 op] w fun e w'=>e= .returned (.tuple #[.agg r.val,.bool q])/\Below w.heap.size w w':=by
 have HM:=zzH hm;clear hm;obtain⟨n1,n6,n7,n2,n3,n4,n5,n8,n28,n34,n37,n39,n40,n9,n10,n30,n11,n12,n13,n14,n15⟩:=h;have b1:(op==1)=false:=zzB.2 n1;have b6:(op==6)=false:=zzB.2 n6;have b7:(op==7)=false:=zzB.2 n7;have b2:(op==2)=false:=zzB.2 n2;have b3:(op==3)=false:=zzB.2 n3;have b4:(op==4)=false:=zzB.2 n4;have b5:(op==5)=false:=zzB.2 n5;have b8:(op==8)=false:=zzB.2 n8;have b28:(op==28)=false:=zzB.2 n28;have b34:(op==34)=false:=zzB.2 n34;have b37:(op==37)=false:=zzB.2 n37;have b39:(op==39)=false:=zzB.2 n39;have b40:(op==40)=false:=zzB.2 n40;have b9:(op==9)=false:=zzB.2 n9;have b10:(op==10)=false:=zzB.2 n10;have b30:(op==30)=false:=zzB.2 n30;have b11:(op==11)=false:=zzB.2 n11;have b12:(op==12)=false:=zzB.2 n12;have b13:(op==13)=false:=zzB.2 n13;have b14:(op==14)=false:=zzB.2 n14;have b15:(op==15)=false:=zzB.2 n15;clear n1 n6 n7 n2 n3 n4 n5 n8 n28 n34 n37 n39 n40 n9 n10 n30 n11 n12 n13 n14 n15;go_in;go_wp2_with (first|(go_at_call 125;refine(HM.out _).mono ?_;rintro e w1 ⟨rfl,hb1⟩;have hk:=zkQ hb1)|(refine wpList_store_row rfl 148 _ _ rfl _ _ rfl rfl 148 _ hk (by kernel_rfl) rfl (RRow.one _) ?_));go_wp2_with fail;refine zzj (zT rfl _ _ _ w.heap.size _ _ _ _ rfl (setRow_heap _ _ _ _ _ _ hk) Tryz.underlying148 (by kernel_rfl)) rfl ?_;exact⟨rfl,below_setRow ((zzE _ _).trans (hb1.mono (by simp))) (zzL _) _⟩
theorem ziE (op:Int) (w:World):Calls Tryz.prog 81 #[.int .i64 op] w fun e w'=>e= .returned (.tuple #[.agg (zeC op).val,.bool (zdi op)])/\Below w.heap.size w w':=by
 by_cases h:1<=op/\op<=40
 ·have hok:zdi op=true:=by unfold zdi;exact zzT h
  rw [hok];obtain⟨k,rfl⟩: ∃k:Nat,op=(k:Int):=⟨op.toNat,by omega⟩;have hk:k<41:=by omega
  have hk1:1<=k:=by omega
  rw [zmj k hk1 hk];clear h hok
  match k,hk,hk1 with
  |0,_,h0=>exact absurd h0 (by decide)
  |1,_,_=>exact zsO w
  |2,_,_=>exact zs9 w
  |3,_,_=>exact zsm w
  |4,_,_=>exact zsx w
  |5,_,_=>exact ztr w
  |6,_,_=>exact zsf w
  |7,_,_=>exact zsX w
  |8,_,_=>exact ztI w
  |9,_,_=>exact zsa w
  |10,_,_=>exact zrX w
  |11,_,_=>exact zrn w
  |12,_,_=>exact zrY w
  |13,_,_=>exact zrS w
  |14,_,_=>exact zrW w
  |15,_,_=>exact zrr w
  |16,_,_=>exact zbn 16 _ true w (fun wx=>ztD wx) (by decide)
  |17,_,_=>exact zbn 17 _ true w (fun wx=>ztm wx) (by decide)
  |18,_,_=>exact zbn 18 _ true w (fun wx=>ztq wx) (by decide)
  |19,_,_=>exact zbn 19 _ true w (fun wx=>zsC wx) (by decide)
  |20,_,_=>exact zbn 20 _ true w (fun wx=>zsy wx) (by decide)
  |21,_,_=>exact zbn 21 _ true w (fun wx=>ztj wx) (by decide)
  |22,_,_=>exact zbn 22 _ true w (fun wx=>zsb wx) (by decide)
  |23,_,_=>exact zbn 23 _ true w (fun wx=>ztd wx) (by decide)
  |24,_,_=>exact zbn 24 _ true w (fun wx=>ztA wx) (by decide)
  |25,_,_=>exact zbn 25 _ true w (fun wx=>zsM wx) (by decide)
  |26,_,_=>exact zbn 26 _ true w (fun wx=>zsl wx) (by decide)
  |27,_,_=>exact zbn 27 _ true w (fun wx=>zst wx) (by decide)
  |28,_,_=>exact zrz w
  |29,_,_=>exact zbn 29 _ true w (fun wx=>ztw wx) (by decide)
  |30,_,_=>exact zp5 w
  |31,_,_=>exact zbn 31 _ true w (fun wx=>zsE wx) (by decide)
  |32,_,_=>exact zbn 32 _ true w (fun wx=>zsK wx) (by decide)
  |33,_,_=>exact zbn 33 _ true w (fun wx=>zsu wx) (by decide)
  |34,_,_=>exact zrf w
  |35,_,_=>exact zbn 35 _ true w (fun wx=>zs5 wx) (by decide)
  |36,_,_=>exact zbn 36 _ true w (fun wx=>ztv wx) (by decide)
  |37,_,_=>exact zqv w
  |38,_,_=>exact zbn 38 _ true w (fun wx=>zsI wx) (by decide)
  |39,_,_=>exact zqu w
  |40,_,_=>exact zqk w
  |k+41,hk,_=>exact absurd hk (by omega)
 ·have hok:zdi op=false:=by unfold zdi;exact zzD h
  rw [hok,ztg h];exact zbn op zRow false w (fun wx=>zs1 op wx h) (by omega)
end Go.Proofs.YtijekmeocadkeaaGreatDoor
