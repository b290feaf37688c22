import Derived.Test.YtponljdhfoipjaaGreatDoorW02
import Derived.Test.YtponljdhfoipjaaGreatDoorW04
namespace Go.Proofs.YtponljdhfoipjaaGreatDoor
open Go.RowKit
set_option linter.unusedVariables false
set_option linter.unusedSimpArgs false
set_option maxRecDepth 100000
set_option maxHeartbeats 0
def ptrV (b:Nat):Value:=.pointer (some ⟨b,0,none⟩)
def MOne (w:World) (mb:Nat) (pv av wv:Value) (g:Nat):Option VM->Prop
 |none=>pv= .pointer none/\av= .slice none 0 0/\wv= .int .i64 0
 |some m=>(∃b,pv=ptrV b/\StAt w b m.st)/\wv= .int .i64 m.wrong/\ ∃ps:List Nat,ps.length=m.all.length/\(∀j (h:j<ps.length) (h':j<m.all.length),StAt w ps[j] m.all[j])/\w.ownsRow (mb+1) 180 1 av m.all.length (ps.map ptrV)/\av.ownBlock=some g
structure MeetAt (w:World) (mb len:Nat) (M:Nat->Option VM) (cs:Array Value) (g:Nat->Nat):Prop where
 row:w.heap[mb]?=some (.cells cs 183 (0,0))
 size:cs.size=len*3
 inj: ∀j k,j<len->k<len->j≠k->M j≠none->M k≠none->g j≠g k
 one: ∀k,k<len-> ∃pv av wv,cs[k*3]?=some pv/\cs[k*3+1]?=some av/\cs[k*3+2]?=some wv/\MOne w mb pv av wv (g k) (M k)
def Only (a b:Nat) (w w':World):Prop:=w.heap.size<=w'.heap.size/\ ∀j,j<w.heap.size->j≠a->j≠b->w'.heap[j]?=w.heap[j]?
theorem Only.refl (a b:Nat) (w:World):Only a b w w:=⟨Nat.le_refl _,fun _ _ _ _=>rfl⟩
theorem Only.trans {a b:Nat} {u v w:World} (h:Only a b u v) (k:Only a b v w):Only a b u w:=
 ⟨Nat.le_trans h.1 k.1,fun j hj h1 h2=>(k.2 j (Nat.lt_of_lt_of_le hj h.1) h1 h2).trans (h.2 j hj h1 h2)⟩
theorem Only.below {a b:Nat} {w w':World} (h:Below w.heap.size w w'):Only a b w w':=⟨h.size,fun j hj _ _=>h.block j hj⟩
theorem Only.left {a b:Nat} {w w':World} (h:Only a a w w'):Only a b w w':=⟨h.1,fun j hj h1 _=>h.2 j hj h1 h1⟩
theorem Only.set {a b i:Nat} {w:World} {v:Value}:Only a b w (w.setCell ⟨a,i,none⟩ v):=
 ⟨by simp [World.setCell],fun j _ h1 _=>heap_setCell_other w ⟨a,i,none⟩ j v h1⟩
theorem Only.grown {a b:Nat} {w w':World} (h:w.grownBy w' (some b)):Only a b w w':=⟨h.size,fun j hj _ h2=>h.block j hj (fun e=>h2 (Option.some.inj e))⟩
theorem Only.keep {a b:Nat} {w w':World} (h:Only a b w w') {cs cs':Array Value} {fr fr':Nat × Nat} (ha:w.heap[a]?=some (.cells cs 183 fr)) (hb:b=a\/w.heap[b]?=some (.cells cs' 180 fr')):KeepT w w':=
 ⟨h.1,fun j c t f hj h1 h2=>(h.2 j (lt_of_row hj) (fun e=>by
   subst e;rw [ha]at hj;injection hj with hj;injection hj with _ hj _;exact h1 hj.symm) (fun e=>by
   subst e
   rcases hb with hb|hb
   ·subst hb;rw [ha]at hj;injection hj with hj;injection hj with _ hj _;exact h1 hj.symm
   ·rw [hb]at hj;injection hj with hj;injection hj with _ hj _;exact h2 hj.symm)).trans hj⟩
theorem MOne.stay {w w':World} {mb g:Nat} {pv av wv:Value} {mo:Option VM} (h:MOne w mb pv av wv g mo) (hk:KeepT w w') (hg:mo≠none->w'.heap[g]?=w.heap[g]?):MOne w' mb pv av wv g mo:=by
 cases mo with
 |none=>exact h
 |some m=>
  obtain⟨⟨b,e1,h1⟩,e2,ps,e3,h2,h3,h4⟩:=h
  refine⟨⟨b,e1,h1.keep hk⟩,e2,ps,e3,fun j a b=>(h2 j a b).keep hk,⟨h3.1,h3.2.imp id fun⟨g',cap,cur,a,b,c,d⟩=>⟨g',cap,cur,a,b,?_,d⟩⟩,h4⟩
  subst a
  have:g'=g:=by simpa [Value.ownBlock] using h4
  subst this
  rw [hg (by simp)];exact c
theorem worst_take (s:VSt) (l:List VSt) (w:Int) {j:Nat} (h:j<l.length):worstV s (l.take (j+1)) w=worse s (worstV s (l.take j) w) l[j]:=by
 unfold worstV
 rw [List.take_succ_eq_append_getElem h,List.foldl_append];rfl
theorem known_take (s:VSt) (l:List VSt) {j:Nat} (h:j<l.length):knownV s (l.take (j+1))=(knownV s (l.take j)||(clashV s l[j]==0)):=by
 unfold knownV
 rw [List.take_succ_eq_append_getElem h,List.any_append];simp
theorem MOne.lt {w:World} {mb g:Nat} {pv av wv:Value} {mo:Option VM} (h:MOne w mb pv av wv g mo) (hn:mo≠none):mb<g/\g<w.heap.size:=by
 cases mo with
 |none=>exact absurd rfl hn
 |some m=>
  obtain⟨-,-,ps,-,-,h3,h4⟩:=h
  have:=h3.lt g h4
  omega
theorem MeetAt.lt {w:World} {mb len:Nat} {M:Nat->Option VM} {cs:Array Value} {g:Nat->Nat} (h:MeetAt w mb len M cs g) {k:Nat} (hk:k<len) (hn:M k≠none):mb<g k/\g k<w.heap.size:=by
 obtain⟨pv,av,wv,-,-,-,h1⟩:=h.one k hk
 exact h1.lt hn
theorem MeetAt.upd {w w':World} {mb len k gk go:Nat} {M:Nat->Option VM} {cs cs':Array Value} {g:Nat->Nat} {pv av wv:Value} {m':VM} (h:MeetAt w mb len M cs g) (hk:k<len)
  (hrow:w'.heap[mb]?=some (.cells cs' 183 (0,0))) (hsz:cs'.size=cs.size) (hfar: ∀j,j≠k*3->j≠k*3+1->j≠k*3+2->cs'[j]?=cs[j]?)
  (e0:cs'[k*3]?=some pv) (e1:cs'[k*3+1]?=some av) (e2:cs'[k*3+2]?=some wv) (hone:MOne w' mb pv av wv gk (some m')) (hkeep:KeepT w w')
  (ho:Only mb go w w') (hgo: ∀j,j<len->j≠k->M j≠none->g j≠go) (hgk: ∀j,j<len->j≠k->M j≠none->g j≠gk):MeetAt w' mb len (fun j=>if j=k then some m' else M j) cs' (fun j=>if j=k then gk else g j):=by
 refine⟨hrow,hsz.trans h.size,fun i j hi hj hij=>?_,fun j hj=>?_⟩
 ·intro h1 h2
  by_cases c1:i=k
  ·have c2: ¬j=k:=fun e=>hij (c1.trans e.symm)
   rw [if_neg c2]at h2
   rw [if_pos c1,if_neg c2]
   exact(hgk j hj c2 h2).symm
  ·rw [if_neg c1]at h1
   by_cases c2:j=k
   ·rw [if_neg c1,if_pos c2]
    exact hgk i hi c1 h1
   ·rw [if_neg c2]at h2
    rw [if_neg c1,if_neg c2]
    exact h.inj i j hi hj hij h1 h2
 ·by_cases c:j=k
  ·subst c
   simp only [if_true]
   exact⟨pv,av,wv,e0,e1,e2,hone⟩
  ·simp only [c,if_false]
   obtain⟨p',a',v',f0,f1,f2,h1⟩:=h.one j hj
   refine⟨p',a',v',(hfar _ (by omega) (by omega) (by omega)).trans f0,(hfar _ (by omega) (by omega) (by omega)).trans f1,(hfar _ (by omega) (by omega) (by omega)).trans f2,h1.stay hkeep fun hn=>?_⟩
   have hl:=h.lt hj hn
   exact ho.2 _ hl.2 (by omega) (hgo j hj c hn)
theorem putM_some {M:Nat->Option VM} {k:Nat} {s:VSt} {m':VM} (h:addV (M k) s=some m'):putM M (k,s)=fun j=>if j=k then some m' else M j:=by
 funext j
 unfold putM
 by_cases c:j=k
 ·simp only [c,if_true];rw [h]
 ·simp only [c,if_false]
theorem infoPst:(Tryz.prog.info? 180).map (fun i=>(i.zero,i.size,i.bytes))=some (some (.pointer none),1,8):=by kernel_rfl
structure AddOk (mo:Option VM) (s:VSt):Prop where
 st: ∀m,mo=some m->VLen m.st
 all: ∀m,mo=some m-> ∀t∈m.all,VLen t
 num: ∀m,mo=some m->m.all.length<=1000000000000
 y: ∀m,mo=some m->worstV s m.all m.wrong=0->m.st.y.length=s.y.length
 wr: ∀m,mo=some m->ErrV m.wrong
def AddQ (mb len k:Nat) (M:Nat->Option VM) (s:VSt) (w:World) (e:Ending) (w':World):Prop:=
 e= .returned (.tuple #[])/\(∃cs' g',MeetAt w' mb len (putM M (k,s)) cs' g')/\KeepT w w'/\Below mb w w'
theorem vadd_none (mb len k q:Nat) (M:Nat->Option VM) (s:VSt) (cs:Array Value) (g:Nat->Nat) (w:World) (h:MeetAt w mb len M cs g) (hk:k<len) (hm:M k=none) (hs:StAt w q s):
  Calls Tryz.prog 88 #[.pointer (some ⟨mb,k*3,none⟩),.pointer (some ⟨q,0,none⟩)] w (AddQ mb len k M s w):=by
 obtain⟨pv,av,wv,f0,f1,f2,h1⟩:=h.one k hk
 rw [hm]at h1
 obtain⟨rfl,rfl,rfl⟩:=h1
 have c0:w.cell? ⟨mb,k*3,none⟩=some (.pointer none):=by rw [cell_of_row _ _ _ _ _ _ h.row];exact f0
 have c1:w.cell? ⟨mb,k*3+1,none⟩=some (.slice none 0 0):=by rw [cell_of_row _ _ _ _ _ _ h.row];exact f1
 have z0:w.frozen? ⟨mb,k*3,none⟩=false:=frozen_of_row _ _ _ _ _ h.row
 have z1:w.frozen? ⟨mb,k*3+1,none⟩=false:=frozen_of_row _ _ _ _ _ h.row
 have H:=Lib.hid h;have HS:=Lib.hid hs
 have HF:Hid (cs[k*3]?=some (.pointer none)/\cs[k*3+1]?=some (.slice none 0 0)/\cs[k*3+2]?=some (.int .i64 0)):=Lib.hid ⟨f0,f1,f2⟩
 have hml:=lt_of_row h.row
 clear h hs f0 f1 f2
 go_in
 go_wp2_with fail
 go_end0
 have hw1:Only mb mb w (((w.setCell ⟨mb,k*3,none⟩ (.pointer (some ⟨q,0,none⟩))).setCell ⟨mb,k*3+1,none⟩ (.slice (some ⟨w.heap.size,0,none⟩) 1 1)).alloc (.cells #[.pointer (some ⟨q,0,none⟩)] 180)):=
  (Only.set.trans Only.set).trans (Only.below (zzE _ _))
 have hsz:((w.setCell ⟨mb,k*3,none⟩ (.pointer (some ⟨q,0,none⟩))).setCell ⟨mb,k*3+1,none⟩ (.slice (some ⟨w.heap.size,0,none⟩) 1 1)).heap.size=w.heap.size:=by simp [World.setCell]
 have hr1:=heap_setCell_same _ mb (k*3+1) _ _ (.slice (some ⟨w.heap.size,0,none⟩) 1 1) (heap_setCell_same w mb (k*3) _ _ (.pointer (some ⟨q,0,none⟩)) H.out.row)
 have hr2:=(Below.heap_alloc ((w.setCell ⟨mb,k*3,none⟩ (.pointer (some ⟨q,0,none⟩))).setCell ⟨mb,k*3+1,none⟩ (.slice (some ⟨w.heap.size,0,none⟩) 1 1)) (.cells #[.pointer (some ⟨q,0,none⟩)] 180) mb (by rw [hsz];exact hml)).trans hr1
 have hr3:=heap_alloc_new ((w.setCell ⟨mb,k*3,none⟩ (.pointer (some ⟨q,0,none⟩))).setCell ⟨mb,k*3+1,none⟩ (.slice (some ⟨w.heap.size,0,none⟩) 1 1)) (.cells #[.pointer (some ⟨q,0,none⟩)] 180)
 rw [hsz]at hr3
 have hbl:Below mb w (((w.setCell ⟨mb,k*3,none⟩ (.pointer (some ⟨q,0,none⟩))).setCell ⟨mb,k*3+1,none⟩ (.slice (some ⟨w.heap.size,0,none⟩) 1 1)).alloc (.cells #[.pointer (some ⟨q,0,none⟩)] 180)):=
  (((Below.refl mb w).setCell (p:=⟨mb,k*3,none⟩) (Nat.le_refl _) _).setCell (p:=⟨mb,k*3+1,none⟩) (Nat.le_refl _) _).alloc (by rw [hsz];exact Nat.le_of_lt hml) _
 generalize((w.setCell ⟨mb,k*3,none⟩ (.pointer (some ⟨q,0,none⟩))).setCell ⟨mb,k*3+1,none⟩ (.slice (some ⟨w.heap.size,0,none⟩) 1 1)).alloc (.cells #[.pointer (some ⟨q,0,none⟩)] 180)=w' at *
 have hkp:KeepT w w':=hw1.keep (cs':=#[]) (fr':=(0,0)) H.out.row (.inl rfl)
 have hs3:k*3+2<cs.size:=by rw [H.out.size];omega
 have hpm:putM M (k,s)=fun j=>if j=k then some ⟨s,[s],0⟩else M j:=putM_some (by rw [hm];rfl)
 suffices hup: ∃cs' g',MeetAt w' mb len (fun j=>if j=k then some ⟨s,[s],0⟩else M j) cs' g' from⟨rfl,by rw [hpm];exact hup,hkp,hbl⟩
 refine⟨_,_,H.out.upd (gk:=w.heap.size) (pv:=ptrV q) (av:=.slice (some ⟨w.heap.size,0,none⟩) 1 1) (wv:=.int .i64 0) hk hr2 (by simp) (fun j h1 h2 h3=>?_) ?_ ?_ ?_ ?_ hkp hw1 (fun j hj _ hn=>Nat.ne_of_gt (H.out.lt hj hn).1) (fun j hj _ hn=>Nat.ne_of_lt (H.out.lt hj hn).2)⟩
 ·rw [Array.getElem?_setIfInBounds,if_neg (by omega),Array.getElem?_setIfInBounds,if_neg (by omega)]
 ·rw [Array.getElem?_setIfInBounds,if_neg (by omega),Array.getElem?_setIfInBounds,if_pos rfl,if_pos (by omega)];rfl
 ·rw [Array.getElem?_setIfInBounds,if_pos rfl,if_pos (by simp;omega)]
 ·rw [Array.getElem?_setIfInBounds,if_neg (by omega),Array.getElem?_setIfInBounds,if_neg (by omega)];exact HF.out.2.2
 ·refine⟨⟨q,rfl,HS.out.keep hkp⟩,rfl,[q],rfl,fun j a b=>?_,⟨rfl,.inr ⟨w.heap.size,1,_,rfl,hml,hr3,Nat.le_refl _,by decide,rfl,rfl⟩⟩,rfl⟩
  have:j=0:=by simpa using a
  subst this
  exact HS.out.keep hkp
theorem vgrown_below {a b:World} (h:Below a.heap.size a b) (o:Option Nat):a.grownBy b o:=⟨h.os,h.tape,h.output,h.size,fun k hk _=>h.block k hk⟩
theorem set_same {a:Array Value} {i:Nat} {v:Value} (h:a[i]?=some v):a.setIfInBounds i v=a:=by
 apply Array.ext_getElem?
 intro j
 rw [Array.getElem?_setIfInBounds]
 by_cases c:i=j
 ·subst c
  rw [if_pos rfl]
  have:i<a.size:=by
   rcases Nat.lt_or_ge i a.size with d|d
   ·exact d
   ·rw [Array.getElem?_eq_none d]at h;cases h
  rw [if_pos this,h]
 ·rw [if_neg c]
theorem owns_slice {w:World} {B n:Nat} {T:TypeId} {v:Value} {xs:List Value} (h:w.ownsRow B T 1 v (n+1) xs): ∃g cap,v= .slice (some ⟨g,0,none⟩) (n+1) cap:=by
 rcases h.2 with⟨-,h0⟩|⟨g,cap,cur,rfl,-⟩
 ·omega
 ·exact⟨g,cap,rfl⟩
theorem add_end {w w':World} {mb len k gk gk' b':Nat} {M:Nat->Option VM} {s:VSt} {m m':VM} {cs:Array Value} {g:Nat->Nat} {W:Int} {av':Value} {ps':List Nat} (H:MeetAt w mb len M cs g) (hk:k<len) (hm:M k=some m) (hadd:addV (some m) s=some m') (hg:g k=gk)
  (hrow:w'.heap[mb]?=some (.cells (((cs.setIfInBounds (k*3+2) (.int .i64 W)).setIfInBounds (k*3+1) av').setIfInBounds (k*3) (ptrV b')) 183 (0,0))) (hst:StAt w' b' m'.st) (hW:m'.wrong=W) (hps:ps'.length=m'.all.length)
  (h3: ∀j (h:j<ps'.length) (h':j<m'.all.length),StAt w' ps'[j] m'.all[j]) (h4:w'.ownsRow (mb+1) 180 1 av' m'.all.length (ps'.map ptrV)) (h5:av'.ownBlock=some gk') (h6:gk'=gk\/w.heap.size<=gk') (h7:Only mb gk w w') (h8:Below mb w w') (hkp:KeepT w w'):
  AddQ mb len k M s w (.returned (.tuple #[])) w':=by
 have hpm:putM M (k,s)=fun j=>if j=k then some m' else M j:=putM_some (by rw [hm];exact hadd)
 have hs3:k*3+2<cs.size:=by rw [H.size];omega
 have hgo: ∀j,j<len->j≠k->M j≠none->g j≠gk:=fun j hj hjk hn=>by rw [<-hg];exact H.inj j k hj hk hjk hn (by rw [hm];simp)
 suffices hup: ∃cs' g',MeetAt w' mb len (fun j=>if j=k then some m' else M j) cs' g' from⟨rfl,by rw [hpm];exact hup,hkp,h8⟩
 refine⟨_,_,H.upd (gk:=gk') (pv:=ptrV b') (av:=av') (wv:=.int .i64 W) hk hrow (by simp) (fun j h1 h2 h3=>?_) ?_ ?_ ?_ ⟨⟨b',rfl,hst⟩,by rw [hW],ps',hps,h3,h4,h5⟩ hkp h7 hgo (fun j hj hjk hn=>?_)⟩
 ·rw [Array.getElem?_setIfInBounds,if_neg (by omega),Array.getElem?_setIfInBounds,if_neg (by omega),Array.getElem?_setIfInBounds,if_neg (by omega)]
 ·rw [Array.getElem?_setIfInBounds,if_pos rfl,if_pos (by simp;omega)]
 ·rw [Array.getElem?_setIfInBounds,if_neg (by omega),Array.getElem?_setIfInBounds,if_pos rfl,if_pos (by simp;omega)]
 ·rw [Array.getElem?_setIfInBounds,if_neg (by omega),Array.getElem?_setIfInBounds,if_neg (by omega),Array.getElem?_setIfInBounds,if_pos rfl,if_pos hs3]
 ·rcases h6 with e|e
  ·rw [e];exact hgo j hj hjk hn
  ·have:=(H.lt hj hn).2;omega
def AddMid (mb k gk:Nat) (cs:Array Value) (W:Int) (all:List VSt) (w wx:World):Prop:=
 ∃(av':Value) (gk':Nat) (ps':List Nat),wx.heap[mb]?=some (.cells ((cs.setIfInBounds (k*3+2) (.int .i64 W)).setIfInBounds (k*3+1) av') 183 (0,0))/\ps'.length=all.length /\
  (∀j (h:j<ps'.length) (h':j<all.length),StAt w ps'[j] all[j])/\wx.ownsRow (mb+1) 180 1 av' all.length (ps'.map ptrV)/\av'.ownBlock=some gk'/\(gk'=gk\/w.heap.size<=gk')/\Only mb gk w wx/\Below mb w wx
theorem vadd_some (mb len k q:Nat) (M:Nat->Option VM) (s:VSt) (m:VM) (cs:Array Value) (g:Nat->Nat) (w:World) (h:MeetAt w mb len M cs g) (hk:k<len) (hm:M k=some m) (hs:StAt w q s) (ls:VLen s) (ha:AddOk (M k) s):
  Calls Tryz.prog 88 #[.pointer (some ⟨mb,k*3,none⟩),.pointer (some ⟨q,0,none⟩)] w (AddQ mb len k M s w):=by
 obtain⟨pv,av,wv,f0,f1,f2,h1⟩:=h.one k hk
 rw [hm]at h1
 obtain⟨⟨b,rfl,hb⟩,rfl,ps,hps,hall,hown,hgk⟩:=h1
 have lm:=ha.st m hm;have la:=ha.all m hm;have lnm:=ha.num m hm;have ly:=ha.y m hm
 refine zzK6 h hs hb hall la ly fun H HS HB HALL HLA HLY=>?_
 have HF:Hid (cs[k*3]?=some (ptrV b)/\cs[k*3+1]?=some av/\cs[k*3+2]?=some (.int .i64 m.wrong)):=Lib.hid ⟨f0,f1,f2⟩
 have hml:=lt_of_row h.row
 have hgl:=hown.lt _ hgk
 obtain⟨gk,cap,cur,rfl,hg0,hg1,hg2,hg3,hg4,hg5⟩: ∃gk cap cur,av= .slice (some ⟨gk,0,none⟩) m.all.length cap/\mb+1<=gk/\w.heap[gk]?=some (.cells cur 180 (0,0))/\m.all.length<=cap/\cap<=maxLen/\cur.size=cap*1/\cur.toList.take (m.all.length*1)=ps.map ptrV:=by
  rcases hown.2 with⟨rfl,-⟩|hh
  ·cases hgk
  ·exact hh
 have HO:=Lib.hid hown
 have egk:g k=gk:=by simpa [Value.ownBlock] using hgk.symm
 have c0:w.cell? ⟨mb,k*3,none⟩=some (.pointer (some ⟨b,0,none⟩)):=by rw [cell_of_row _ _ _ _ _ _ h.row];exact f0
 have c1:w.cell? ⟨mb,k*3+1,none⟩=some (.slice (some ⟨gk,0,none⟩) m.all.length cap):=by rw [cell_of_row _ _ _ _ _ _ h.row];exact f1
 have hs3:k*3+2<cs.size:=by rw [h.size];omega
 have hcur: ∀j (hj:j<m.all.length),cur[j]?=some (ptrV (ps[j]'(by omega))):=fun j hj=>by
  have h5:(cur.toList.take (m.all.length*1))[j]?=(ps.map ptrV)[j]?:=by rw [hg5]
  rw [List.getElem?_take_of_lt (by omega),Array.getElem?_toList,List.getElem?_map,List.getElem?_eq_getElem (by omega)]at h5
  exact h5
 refine zzK3 hcur hg1 h.row fun HC HG1 HROW=>?_
 have ENE:Hid (addV (some m) s=some ⟨if worstV s m.all m.wrong=0 then joinS m.st s else m.st,if knownV s m.all=true then m.all else m.all++ [s],worstV s m.all m.wrong⟩):=Lib.hid rfl
 clear h hs hb hall la ly hown hgk f0 f1 f2 hg5 hcur hg1 ha hgl
 obtain⟨n,hn⟩: ∃n:Nat,n=m.all.length:=⟨_,rfl⟩
 go_in
 go_wp2_with fail
 go_loopw [4,27] (fun kv iv wr=> ∃j:Nat,j<=m.all.length/\iv= .int .i64 j/\kv= .bool (knownV s (m.all.take j))/\Hid (wr.heap[mb]?=some (.cells (cs.setIfInBounds (k*3+2) (.int .i64 (worstV s (m.all.take j) m.wrong))) 183 (0,0))/\Only mb mb w wr/\Below mb w wr)) (fun _ iv _=>m.all.length-(intOf iv).toNat)
 case atStart=>exact⟨0,Nat.zero_le _,rfl,rfl,Lib.hid ⟨by rw [List.take_zero];exact HROW.out.trans (congrArg (fun x=>some (Obj.cells x 183 (0,0))) (set_same HF.out.2.2).symm),Only.refl _ _ _,Below.refl _ _⟩⟩
 case round=>
  obtain⟨j,hj,rfl,rfl,HK⟩:=hrel
  rename World=>wr
  by_cases hlt:j<m.all.length
  ·as_aux_lemma=>
   have kp:KeepT w wr:=HK.out.2.1.keep (cs':=#[]) (fr':=(0,0)) HROW.out (.inl rfl)
   have hw:=HK.out.1
   have d0:wr.cell? ⟨gk,j,none⟩=some (.pointer (some ⟨ps[j]'(by omega),0,none⟩)):=by
    rw [cell_of_row _ _ _ _ _ _ ((HK.out.2.1.2 gk (lt_of_row HG1.out) (by omega) (by omega)).trans HG1.out)]
    exact HC.out j hlt
   have d2:wr.cell? ⟨mb,k*3+2,none⟩=some (.int .i64 (worstV s (m.all.take j) m.wrong)):=by
    rw [cell_of_row _ _ _ _ _ _ hw,Array.getElem?_setIfInBounds,if_pos rfl,if_pos hs3]
   have d3:wr.frozen? ⟨mb,k*3+2,none⟩=false:=frozen_of_row _ _ _ _ _ hw
   have hcl:=vclash_any q (ps[j]'(by omega)) s m.all[j] wr (HS.out.keep kp) ((HALL.out j (by omega) hlt).keep kp) ls (HLA.out _ (List.getElem_mem hlt))
   have KT:=known_take s m.all hlt
   have WT:=worst_take s m.all m.wrong hlt
   have HKT:=Lib.hid KT;have HWT:=Lib.hid WT
   clear KT WT
   have hwd:Hid (worse s (worstV s (m.all.take j) m.wrong) m.all[j]=if clashV s m.all[j]≠0/\(worstV s (m.all.take j) m.wrong=0\/clashV s m.all[j]<worstV s (m.all.take j) m.wrong)then clashV s m.all[j]else worstV s (m.all.take j) m.wrong):=Lib.hid rfl
   generalize ps[j]'(by omega)=pj at *
   generalize clashV s m.all[j]=ev at *
   generalize worse s (worstV s (m.all.take j) m.wrong) m.all[j]=wz at *
   generalize hwj:worstV s (m.all.take j) m.wrong=wj at *
   generalize knownV s (m.all.take j)=kb at *
   have HCL:=Lib.hid hcl
   have hI0:(0:Int)<=(j:Int):=by omega
   have hI1:(j:Int)<(m.all.length:Int):=by omega
   clear hcl hwj hw kp
   have fin: ∀(nq:Nat),wz=wj->Hid ((wr.drewN nq).heap[mb]?=some (.cells (cs.setIfInBounds (k*3+2) (.int .i64 (worstV s (m.all.take (j+1)) m.wrong))) 183 (0,0))/\Only mb mb w (wr.drewN nq)/\Below mb w (wr.drewN nq)):=fun nq e=>Lib.hid ⟨by rw [HWT.out,e];exact HK.out.1,⟨HK.out.2.1.1,HK.out.2.1.2⟩,below_drewN HK.out.2.2 nq⟩
   have fis: ∀(nq:Nat),wz=ev->Hid (((wr.drewN nq).setCell ⟨mb,k*3+2,none⟩ (.int .i64 ev)).heap[mb]?=some (.cells (cs.setIfInBounds (k*3+2) (.int .i64 (worstV s (m.all.take (j+1)) m.wrong))) 183 (0,0))/\Only mb mb w ((wr.drewN nq).setCell ⟨mb,k*3+2,none⟩ (.int .i64 ev))/\Below mb w ((wr.drewN nq).setCell ⟨mb,k*3+2,none⟩ (.int .i64 ev))):=fun nq e=>
    Lib.hid ⟨by rw [HWT.out,e];exact(heap_setCell_same (wr.drewN nq) mb (k*3+2) _ _ _ HK.out.1).trans (by rw [Array.setIfInBounds_setIfInBounds]),(show Only mb mb w (wr.drewN nq)from⟨HK.out.2.1.1,HK.out.2.1.2⟩).trans Only.set,(below_drewN HK.out.2.2 nq).setCell (p:=⟨mb,k*3+2,none⟩) (Nat.le_refl _) _⟩
   have FIN:=Lib.hid fin;have FIS:=Lib.hid fis
   clear fin fis
   by_cases e0:ev=0
   ·have t0:(ev==0)=true:=beq_iff_eq.2 e0
    have t1 : (ev != 0) = false := by rw [e0]; rfl
    have HW2:Hid (wz=wj):=Lib.hid (by rw [hwd.out,if_neg (fun x=>x.1 e0)])
    have HK2:Hid (knownV s (m.all.take (j+1))=true):=Lib.hid (by rw [HKT.out,t0,Bool.or_true])
    clear e0 hwd HKT
    cases kb with
    |true=>
     go_wp2_with fail
     refine HCL.out.mono ?_
     rintro e w1 ⟨rfl,nq,rfl⟩
     go_wp2_with fail
     exact⟨⟨j+1,hlt,by go_num,by rw [HK2.out],FIN.out nq HW2.out⟩,by simp [intOf];omega⟩
    |false=>
     go_wp2_with fail
     refine HCL.out.mono ?_
     rintro e w1 ⟨rfl,nq,rfl⟩
     go_wp2_with fail
     exact⟨⟨j+1,hlt,by go_num,by rw [HK2.out],FIN.out nq HW2.out⟩,by simp [intOf];omega⟩
   ·have t0:(ev==0)=false:=beq_eq_false_iff_ne.2 e0
    have t1 : (ev != 0) = true := by simpa using e0
    have HK2:Hid (knownV s (m.all.take (j+1))=kb):=Lib.hid (by rw [HKT.out,t0,Bool.or_false])
    clear HKT
    by_cases e1:wj=0
    ·have t2:(wj==0)=true:=beq_iff_eq.2 e1
     have HW2:Hid (wz=ev):=Lib.hid (by rw [hwd.out,if_pos ⟨e0,.inl e1⟩])
     clear e0 e1 hwd
     cases kb with
     |true=>
      go_wp2_with fail
      refine HCL.out.mono ?_
      rintro e w1 ⟨rfl,nq,rfl⟩
      go_wp2_with fail
      exact⟨⟨j+1,hlt,by go_num,by rw [HK2.out],FIS.out nq HW2.out⟩,by simp [intOf];omega⟩
     |false=>
      go_wp2_with fail
      refine HCL.out.mono ?_
      rintro e w1 ⟨rfl,nq,rfl⟩
      go_wp2_with fail
      exact⟨⟨j+1,hlt,by go_num,by rw [HK2.out],FIS.out nq HW2.out⟩,by simp [intOf];omega⟩
    ·have t2:(wj==0)=false:=beq_eq_false_iff_ne.2 e1
     by_cases e2:ev<wj
     ·have t3:decide (ev<wj)=true:=decide_eq_true e2
      have HW2:Hid (wz=ev):=Lib.hid (by rw [hwd.out,if_pos ⟨e0,.inr e2⟩])
      clear e0 e1 e2 hwd
      cases kb with
      |true=>
       go_wp2_with fail
       refine HCL.out.mono ?_
       rintro e w1 ⟨rfl,nq,rfl⟩
       go_wp2_with fail
       exact⟨⟨j+1,hlt,by go_num,by rw [HK2.out],FIS.out nq HW2.out⟩,by simp [intOf];omega⟩
      |false=>
       go_wp2_with fail
       refine HCL.out.mono ?_
       rintro e w1 ⟨rfl,nq,rfl⟩
       go_wp2_with fail
       exact⟨⟨j+1,hlt,by go_num,by rw [HK2.out],FIS.out nq HW2.out⟩,by simp [intOf];omega⟩
     ·have t3:decide (ev<wj)=false:=decide_eq_false e2
      have HW2:Hid (wz=wj):=Lib.hid (by rw [hwd.out,if_neg (fun x=>x.2.elim e1 e2)])
      clear e0 e1 e2 hwd
      cases kb with
      |true=>
       go_wp2_with fail
       refine HCL.out.mono ?_
       rintro e w1 ⟨rfl,nq,rfl⟩
       go_wp2_with fail
       exact⟨⟨j+1,hlt,by go_num,by rw [HK2.out],FIN.out nq HW2.out⟩,by simp [intOf];omega⟩
      |false=>
       go_wp2_with fail
       refine HCL.out.mono ?_
       rintro e w1 ⟨rfl,nq,rfl⟩
       go_wp2_with fail
       exact⟨⟨j+1,hlt,by go_num,by rw [HK2.out],FIN.out nq HW2.out⟩,by simp [intOf];omega⟩
  ·obtain rfl:j=m.all.length:=by omega
   rw [List.take_length]at HK ⊢
   have hw:=HK.out.1
   generalize hW:worstV s m.all m.wrong=W at *
   have HWW:=Lib.hid hW
   clear hW
   have EN:=ENE
   clear ENE
   have e1:wr.cell? ⟨mb,k*3+1,none⟩=some (.slice (some ⟨gk,0,none⟩) m.all.length cap):=by
    rw [cell_of_row _ _ _ _ _ _ hw,Array.getElem?_setIfInBounds,if_neg (by omega)];exact HF.out.2.1
   have e2:wr.cell? ⟨mb,k*3+2,none⟩=some (.int .i64 W):=by
    rw [cell_of_row _ _ _ _ _ _ hw,Array.getElem?_setIfInBounds,if_pos rfl,if_pos hs3]
   have z1:wr.frozen? ⟨mb,k*3+1,none⟩=false:=frozen_of_row _ _ _ _ _ hw
   have hgr:=(HK.out.2.1.2 gk (lt_of_row HG1.out) (by omega) (by omega)).trans HG1.out
   have hown:wr.ownsRow (mb+1) 180 1 (.slice (some ⟨gk,0,none⟩) m.all.length cap) m.all.length (ps.map ptrV):=
    ⟨HO.out.1,.inr ⟨gk,cap,cur,rfl,hg0,hgr,hg2,hg3,hg4,by
     rcases HO.out.2 with⟨hh,-⟩|⟨g',cap',cur',hh,-,hg',-,-,-,ht⟩
     ·cases hh
     ·injection hh with ha hb' hc'
      injection ha with ha
      injection ha with ha
      subst ha
      rw [HG1.out]at hg'
      injection hg' with hg'
      injection hg' with hg'
      subst hg'
      exact ht⟩⟩
   obtain⟨i0,hi,hz0,hz1,hz2⟩:=info_parts infoPst
   generalize hkb:knownV s m.all=kb at *
   have HKB:=Lib.hid hkb
   clear hkb
   cases kb
   case' true=>
    go_upto_region 13 with fail
    obtain⟨L,HA,EQ⟩: ∃L,Hid (AddMid mb k gk cs W L w wr)/\Hid (addV (some m) s=some ⟨if W=0 then joinS m.st s else m.st,L,W⟩):=⟨m.all,Lib.hid ⟨.slice (some ⟨gk,0,none⟩) m.all.length cap,gk,ps,by
     rw [set_same (a:=cs.setIfInBounds (k*3+2) (.int .i64 W)) (by rw [Array.getElem?_setIfInBounds,if_neg (by omega)];exact HF.out.2.1)];exact hw,hps,HALL.out,hown,rfl,.inl rfl,HK.out.2.1.left,HK.out.2.2⟩,Lib.hid (EN.out.trans (by rw [if_pos rfl]))⟩
    clear e1 e2 z1 hgr hown EN HKB hw HK
    generalize wr=W3 at *
   case' false=>
    have HOA:=Lib.hid (hown.alloc (.cells #[.pointer (some ⟨q,0,none⟩)] 180))
    have hms:mb+1<=(wr.alloc (.cells #[.pointer (some ⟨q,0,none⟩)] 180)).heap.size:=by have:=lt_of_row hw;simp;omega
    go_wp2_with (at_builtin;refine wpList_append_own_at _ rfl (.tmp 67) (.tmp 69) 181 rfl (mb+1) 180 i0 (.pointer none) 1 8 Tryz.underlying181 hi hz0 hz1 hz2 rfl (by decide) (.slice (some ⟨gk,0,none⟩) m.all.length cap) m.all.length (ps.map ptrV) rfl HOA.out ⟨wr.heap.size,0,none⟩ 1 1 [.pointer (some ⟨q,0,none⟩)] rfl rfl (one_news _ _ _) (by simp [Value.oneCell']) (by unfold maxLen;omega) (by omega) hms ?_)
    intro v' w2 ho2 hg2 hnil hloc
    have hrw:=(hg2.block mb (Nat.lt_of_lt_of_le (Nat.lt_succ_self mb) hms) (fun e=>absurd (Option.some.inj e) (by show¬mb=gk;omega))).trans ((Below.heap_alloc _ _ _ (lt_of_row hw)).trans hw)
    have HRW:=Lib.hid hrw
    have y1:=cellOf hrw (k:=k*3+1) (by simp;omega)
    have y2:w2.frozen? ⟨mb,k*3+1,none⟩=false:=frozen_of_row _ _ _ _ _ hrw
    refine zzK3 ho2 hg2 hloc fun HO2 HG2 HLOC=>?_
    obtain⟨g2,cap2,rfl⟩:=owns_slice ho2
    clear hrw ho2 hg2 hnil hloc
    go_upto_region 13 with fail
    have ho:Only mb gk w (w2.setCell ⟨mb,k*3+1,none⟩ (.slice (some ⟨g2,0,none⟩) (m.all.length+1) cap2)):=
     ((HK.out.2.1.left.trans (.below (zzE _ _))).trans (Only.grown HG2.out)).trans Only.set
    have hbl:Below mb w (w2.setCell ⟨mb,k*3+1,none⟩ (.slice (some ⟨g2,0,none⟩) (m.all.length+1) cap2)):=
     ((HK.out.2.2.alloc (Nat.le_of_lt (lt_of_row hw)) _).grown HG2.out (by have:=lt_of_row hw;simp;omega) (fun x e=>by
      have:=Option.some.inj e;subst this;show mb<=gk;omega)).setCell (p:=⟨mb,k*3+1,none⟩) (Nat.le_refl _) _
    have hg2:g2=gk\/w.heap.size<=g2:=by
     rcases HLOC.out with e|e
     ·left;have:=Option.some.inj e;exact this
     ·right
      have h1:g2=wr.heap.size+1:=Option.some.inj e
      have h2:=HK.out.2.1.1
      omega
    have ho2:(w2.setCell ⟨mb,k*3+1,none⟩ (.slice (some ⟨g2,0,none⟩) (m.all.length+1) cap2)).ownsRow (mb+1) 180 1 (.slice (some ⟨g2,0,none⟩) (m.all.length+1) cap2) (m.all.length+1) ((ps++ [q]).map ptrV):=by
     rw [List.map_append]
     exact ownsRow_setCell_below HO2.out (Nat.lt_succ_self mb) _
    obtain⟨L,HA,EQ⟩: ∃L,Hid (AddMid mb k gk cs W L w (w2.setCell ⟨mb,k*3+1,none⟩ (.slice (some ⟨g2,0,none⟩) (m.all.length+1) cap2)))/\Hid (addV (some m) s=some ⟨if W=0 then joinS m.st s else m.st,L,W⟩):=
     ⟨m.all++ [s],Lib.hid ⟨_,g2,ps++ [q],heap_setCell_same _ _ _ _ _ _ HRW.out,by simp [hps],fun j h h'=>by
      by_cases c:j<m.all.length
      ·rw [List.getElem_append_left (by omega),List.getElem_append_left c];exact HALL.out j (by omega) c
      ·rw [List.getElem_append_right (by omega),List.getElem_append_right (by omega)];simp;exact HS.out,by rw [List.length_append];exact ho2,rfl,hg2,ho,hbl⟩,Lib.hid (EN.out.trans (by simp only [Bool.false_eq_true,if_false]))⟩
    clear e1 e2 z1 hgr hown EN HKB hw HK ho2 hg2 hbl ho HRW y1 y2 HO2 HG2 HLOC HOA hms
    generalize w2.setCell ⟨mb,k*3+1,none⟩ (.slice (some ⟨g2,0,none⟩) (m.all.length+1) cap2)=W3 at *
   all_goals
    obtain⟨av',gk',ps',r1,r2,r3,r4,r5,r6,r7,r8⟩:=HA.out
    have kp:KeepT w W3:=r7.keep HROW.out (.inr HG1.out)
    refine zzK6 r1 r4 r7 r8 kp r3 fun HR1 HR4 HR7 HR8 HKP HR3=>?_
    have x0:W3.cell? ⟨mb,k*3,none⟩=some (.pointer (some ⟨b,0,none⟩)):=by
     rw [cell_of_row _ _ _ _ _ _ r1,Array.getElem?_setIfInBounds,if_neg (by omega),Array.getElem?_setIfInBounds,if_neg (by omega)];exact HF.out.1
    have x2:W3.cell? ⟨mb,k*3+2,none⟩=some (.int .i64 W):=by
     rw [cell_of_row _ _ _ _ _ _ r1,Array.getElem?_setIfInBounds,if_neg (by omega),Array.getElem?_setIfInBounds,if_pos rfl,if_pos hs3]
    clear r1 r3 r4 r7 r8 kp HA
    by_cases hw0:W=0
    ·have hjo:=vjoined_any b q m.st s W3 (HB.out.keep HKP.out) (HS.out.keep HKP.out) lm ls (HLY.out hw0)
     have HJO:=Lib.hid hjo
     have t0:(W==0)=true:=beq_iff_eq.2 hw0
     have EQ2:Hid (addV (some m) s=some ⟨joinS m.st s,L,W⟩):=Lib.hid (EQ.out.trans (by rw [if_pos hw0]))
     clear hw0 hjo EQ
     go_wp2_with fail
     refine HJO.out.mono ?_
     rintro e w5 ⟨⟨b5,rfl,hb5,hst5⟩,hbl5⟩
     have hr5:=(hbl5.block mb (lt_of_row HR1.out)).trans HR1.out
     have y0:=cellOf hr5 (k:=k*3) (by simp;omega)
     have y1:w5.frozen? ⟨mb,k*3,none⟩=false:=frozen_of_row _ _ _ _ _ hr5
     refine zzK3 hr5 hst5 hbl5 fun HR5 HST5 HBL5=>?_
     clear hr5 hst5 hbl5 HJO
     go_wp2_with fail
     go_end0
     have hkp5:KeepT w (w5.setCell ⟨mb,k*3,none⟩ (.pointer (some ⟨b5,0,none⟩))):=((HR7.out.trans (.below HBL5.out)).trans Only.set).keep HROW.out (.inr HG1.out)
     have hks:KeepT w5 (w5.setCell ⟨mb,k*3,none⟩ (.pointer (some ⟨b5,0,none⟩))):=(Only.set (b:=mb)).keep (cs':=#[]) (fr':=(0,0)) HR5.out (.inl rfl)
     have hk35:KeepT W3 (w5.setCell ⟨mb,k*3,none⟩ (.pointer (some ⟨b5,0,none⟩))):=(KeepT.below HBL5.out).trans hks
     exact add_end H.out hk hm EQ2.out egk (heap_setCell_same _ _ _ _ _ _ HR5.out) (HST5.out.keep hks) rfl r2 (fun j h h'=>(HR3.out j h h').keep hkp5)
      (ownsRow_setCell_below (HR4.out.kept (vgrown_below HBL5.out none) (by rw [r5];simp)) (Nat.lt_succ_self mb) _) r5 r6 ((HR7.out.trans (.below HBL5.out)).trans Only.set)
      ((HR8.out.trans (HBL5.out.mono (Nat.le_of_lt (lt_of_row HR1.out)))).setCell (p:=⟨mb,k*3,none⟩) (Nat.le_refl _) _) hkp5
    ·have t0:(W==0)=false:=beq_eq_false_iff_ne.2 hw0
     have EQ2:Hid (addV (some m) s=some ⟨m.st,L,W⟩):=Lib.hid (EQ.out.trans (by rw [if_neg hw0]))
     clear hw0 EQ
     go_wp2_with fail
     go_end0
     refine add_end H.out hk hm EQ2.out egk ?_ (HB.out.keep HKP.out) rfl r2 (fun j h h'=>(HR3.out j h h').keep HKP.out) HR4.out r5 r6 HR7.out HR8.out HKP.out
     rw [set_same (v:=ptrV b) (by rw [Array.getElem?_setIfInBounds,if_neg (by omega),Array.getElem?_setIfInBounds,if_neg (by omega)];exact HF.out.1)]
     exact HR1.out
theorem vadd_any (mb len k q:Nat) (M:Nat->Option VM) (s:VSt) (cs:Array Value) (g:Nat->Nat) (w:World) (h:MeetAt w mb len M cs g) (hk:k<len) (hs:StAt w q s) (ls:VLen s) (ha:AddOk (M k) s):
  Calls Tryz.prog 88 #[.pointer (some ⟨mb,k*3,none⟩),.pointer (some ⟨q,0,none⟩)] w (AddQ mb len k M s w):=by
 cases hm:M k with
 |none=>exact vadd_none mb len k q M s cs g w h hk hm hs
 |some m=>exact vadd_some mb len k q M s m cs g w h hk hm hs ls ha
structure VCx (w:World) (E U mb:Nat) (at':Int) (u:RUnit) (lo fo go co:Option Addr) (lc fc gc cc mc:Nat):Prop where
 ex:w.heap[E]?=some (.cells #[.pointer (some ⟨U,0,none⟩),.slice (some ⟨mb,0,none⟩) u.code.length mc,.int .i64 at'] 179 (0,0))
 bx:UBox w U u lo fo go co lc fc gc cc
 up:UP w u lo fo go co
theorem VCx.below {w w':World} {E U mb:Nat} {at':Int} {u:RUnit} {lo fo go co:zzA} {lc fc gc cc mc:Nat} (h:VCx w E U mb at' u lo fo go co lc fc gc cc mc) (hb:Below w.heap.size w w'):VCx w' E U mb at' u lo fo go co lc fc gc cc mc:=
 ⟨(hb.block E (lt_of_row h.ex)).trans h.ex,h.bx.below hb,h.up.below hb⟩
theorem VCx.e0 {w:World} {E U mb:Nat} {at':Int} {u:RUnit} {lo fo go co:zzA} {lc fc gc cc mc:Nat} (h:VCx w E U mb at' u lo fo go co lc fc gc cc mc):w.cell? ⟨E,0,none⟩=some (.pointer (some ⟨U,0,none⟩)):=by rw [cell_of_row _ _ _ _ _ _ h.ex];rfl
theorem VCx.e1 {w:World} {E U mb:Nat} {at':Int} {u:RUnit} {lo fo go co:zzA} {lc fc gc cc mc:Nat} (h:VCx w E U mb at' u lo fo go co lc fc gc cc mc):w.cell? ⟨E,1,none⟩=some (.slice (some ⟨mb,0,none⟩) u.code.length mc):=by rw [cell_of_row _ _ _ _ _ _ h.ex];rfl
theorem VCx.e2 {w:World} {E U mb:Nat} {at':Int} {u:RUnit} {lo fo go co:zzA} {lc fc gc cc mc:Nat} (h:VCx w E U mb at' u lo fo go co lc fc gc cc mc):w.cell? ⟨E,2,none⟩=some (.int .i64 at'):=by rw [cell_of_row _ _ _ _ _ _ h.ex];rfl
structure ArgOk (u:RUnit) (s:VSt) (a:RArg):Prop where
 x:a.kind=1->0<=a.n/\a.n<=255
 y:a.kind=2->0<=a.n/\a.n<=8191
 l:a.kind≠1->a.kind≠2->0<=a.n/\a.n<u.lits.length
 i:I64 a.n
structure StOk (s:VSt):Prop where
 len:VLen s
 y:0<=s.frame->s.y.length=s.frame.toNat
 fr: -1<=s.frame/\s.frame<=8192
def LitsLen (u:RUnit):Prop:= ∀t∈u.lits,t.items.length<=1000000
theorem ret_ii2 {a b c d:Int} (h:a=b) (h':c=d):Ending.returned (.tuple #[.int .i64 a,.int .i64 c])= .returned (.tuple #[.int .i64 b,.int .i64 d]):=by rw [h,h']
theorem vkind_any (E U mb b:Nat) (at':Int) (u:RUnit) (lo fo go co:zzA) (lc fc gc cc mc:Nat) (s:VSt) (a:RArg) (w:World) (hx:VCx w E U mb at' u lo fo go co lc fc gc cc mc) (hs:StAt w b s) (ho:StOk s) (ha:ArgOk u s a) (hl:LitsLen u):
  Calls Tryz.prog 171 #[.pointer (some ⟨E,0,none⟩),.pointer (some ⟨b,0,none⟩),.agg #[.int .i64 a.kind,.int .i64 a.n]] w fun e w'=>e= .returned (.tuple #[.int .i64 (kindT u s a),.int .i64 (kindE s a)])/\Below w.heap.size w w':=by
 obtain⟨ak,an⟩:=a
 have hb0:=(Below.refl w.heap.size w).alloc (Nat.le_refl _) (.cells #[.int .i64 ak,.int .i64 an] 68)
 have e0:=heap_alloc_new w (.cells #[.int .i64 ak,.int .i64 an] 68)
 have hx1:=hx.below hb0
 have hs1:=hs.below hb0
 have h1:=ha.x;have h2:=ha.y;have h3:=ha.l
 simp only at h1 h2 h3
 have hfr:=ho.fr;have hlx:=ho.len.x;have hly:=ho.len.y;have hy:=ho.y
 have HT:Hid (kindT u s ⟨ak,an⟩=if ak=1 then typT s.x an else if ak=2 then(if s.frame<=an then 0 else s.y.getD an.toNat 0)else litV u an):=Lib.hid rfl
 have HE:Hid (kindE s ⟨ak,an⟩=if ak=1 then(if typT s.x an=0 then 186 else 0)else if ak=2 then(if s.frame<=an then 181 else 0)else 0):=Lib.hid rfl
 generalize kindT u s ⟨ak,an⟩=RT at *
 generalize kindE s ⟨ak,an⟩=RE at *
 clear hx hs ha ho
 go_in
 go_upto_region 1 with fail
 generalize w.alloc (.cells #[.int .i64 ak,.int .i64 an] 68)=W at *
 have HB:=Lib.hid hb0
 have b0:=cellOf e0 (k:=0) (by simp)
 have b1:=cellOf e0 (k:=1) (by simp)
 simp only [List.getElem_toArray,List.getElem_cons_zero,List.getElem_cons_succ]at b0 b1
 have HS:=Lib.hid hs1;have HX:=Lib.hid hx1
 clear hb0 e0
 by_cases k1:ak=1
 ·subst k1
  obtain⟨g1,g2⟩:=h1 rfl
  have hreg:=vregister_any b s an W hs1 ⟨g1,by omega⟩ (by omega)
  have HT2:Hid (RT=typT s.x an):=Lib.hid (by rw [HT.out,if_pos rfl])
  have HE2:Hid (RE=if typT s.x an=0 then 186 else 0):=Lib.hid (by rw [HE.out,if_pos rfl])
  clear h1 h2 h3 hx1 hs1 HT HE
  generalize typT s.x an=t at *
  have HR:=Lib.hid hreg
  clear hreg
  by_cases c0:t=0
  ·have t0:(t==0)=true:=beq_iff_eq.2 c0
   have HE3:Hid (RE=186):=Lib.hid (by rw [HE2.out,if_pos c0])
   clear c0 HE2
   go_wp2_with fail
   refine HR.out.mono ?_
   rintro e w1 ⟨rfl,rfl⟩
   go_wp2_with fail
   refine(when_any _ _ _).mono ?_
   rintro e w1 ⟨rfl,rfl⟩
   go_wp2_with fail
   go_ret2
   exact⟨ret_ii2 HT2.out.symm HE3.out.symm,HB.out⟩
  ·have t0:(t==0)=false:=beq_eq_false_iff_ne.2 c0
   have HE3:Hid (RE=0):=Lib.hid (by rw [HE2.out,if_neg c0])
   clear c0 HE2
   go_wp2_with fail
   refine HR.out.mono ?_
   rintro e w1 ⟨rfl,rfl⟩
   go_wp2_with fail
   refine(when_any _ _ _).mono ?_
   rintro e w1 ⟨rfl,rfl⟩
   go_wp2_with fail
   go_ret2
   exact⟨ret_ii2 HT2.out.symm HE3.out.symm,HB.out⟩
 ·by_cases k2:ak=2
  ·subst k2
   obtain⟨g1,g2⟩:=h2 rfl
   have HT2:Hid (RT=if s.frame<=an then 0 else s.y.getD an.toNat 0):=Lib.hid (by rw [HT.out,if_neg (by decide),if_pos rfl])
   have HE2:Hid (RE=if s.frame<=an then 181 else 0):=Lib.hid (by rw [HE.out,if_neg (by decide),if_pos rfl])
   obtain⟨xo,xc,yo,yc,to',tc,c0,c1,c2,c3,c4,c5,c6,hL⟩:=hs1.cells
   clear h1 h2 h3 hx1 hs1 HT HE c1 c3 c4 c5 c6 k1
   by_cases d0:s.frame<=an
   ·have t0:decide (s.frame<=an)=true:=decide_eq_true d0
    have HT3:Hid (RT=0):=Lib.hid (by rw [HT2.out,if_pos d0])
    have HE3:Hid (RE=181):=Lib.hid (by rw [HE2.out,if_pos d0])
    clear HT2 HE2 d0 hy hL c2 hlx hly
    go_wp2_with fail
    go_quiet (fail)
    go_wp2_with fail
    go_ret2
    exact⟨ret_ii2 HT3.out.symm HE3.out.symm,below_drewN HB.out _⟩
   ·have t0:decide (s.frame<=an)=false:=decide_eq_false d0
    have HT3:Hid (RT=s.y.getD an.toNat 0):=Lib.hid (by rw [HT2.out,if_neg d0])
    have HE3:Hid (RE=0):=Lib.hid (by rw [HE2.out,if_neg d0])
    obtain⟨n,rfl⟩:=Int.eq_ofNat_of_zero_le g1
    have hyl:=hy (by omega)
    have hn:n<s.y.length:=by omega
    obtain⟨yb,yf,rfl,hyb,z⟩:=hL.y.cell hn
    have HT4:Hid (RT=s.y.getD n 0):=HT3
    clear HT2 HE2 d0 hL HT3
    generalize s.y.getD n 0=v at *
    have hI0:(0:Int)<=(n:Int):=by omega
    have hI1:(n:Int)<(s.y.length:Int):=by omega
    go_wp2_with fail
    go_quiet (fail)
    go_wp2_with fail
    go_quiet (fail)
    go_wp2_with fail
    go_ret2
    exact⟨ret_ii2 HT4.out.symm HE3.out.symm,below_drewN (below_drewN HB.out _) _⟩
  ·obtain⟨g1,g2⟩:=h3 k1 k2
   obtain⟨n,rfl⟩:=Int.eq_ofNat_of_zero_le g1
   have hn:n<u.lits.length:=by omega
   have HT2:Hid (RT=if u.lits[n].kind=9 then 2 else if u.lits[n].kind=7 then 3+(u.lits[n].items.length:Int)else 1):=Lib.hid (by
    rw [HT.out,if_neg k1,if_neg k2]
    unfold litV
    rw [Int.toNat_natCast,List.getElem?_eq_getElem hn])
   have HE2:Hid (RE=0):=Lib.hid (by rw [HE.out,if_neg k1,if_neg k2])
   have t1:(ak==1)=false:=beq_eq_false_iff_ne.2 k1
   have t2:(ak==2)=false:=beq_eq_false_iff_ne.2 k2
   have hit:=hl _ (List.getElem_mem hn)
   obtain⟨f,hf⟩:=tms_depth hx1.up.lits
   obtain⟨lb,loff,li,lic,rfl,hlb,q0,q1,q2,q3,q4,q5,q6,q7,q8,-,-⟩:=(hf.imp fun _ _ h=>h.succ).tm hn
   have x0:=hx1.e0
   have x2:=hx1.bx.c2
   clear h1 h2 h3 hx1 hs1 HT HE k1 k2 q1 q2 q3 q4 q5 q7 q8 hf HS hy hlx hly hfr
   generalize u.lits[n]=t at *
   have hI0:(0:Int)<=(n:Int):=by omega
   have hI1:(n:Int)<(u.lits.length:Int):=by omega
   by_cases d9:t.kind=9
   ·have t9:(t.kind==9)=true:=beq_iff_eq.2 d9
    have HT3:Hid (RT=2):=Lib.hid (by rw [HT2.out,if_pos d9])
    clear HT2 d9
    go_wp2_with fail
    go_quiet (fail)
    go_wp2_with fail
    go_ret2
    exact⟨ret_ii2 HT3.out.symm HE2.out.symm,below_drewN HB.out _⟩
   ·have t9:(t.kind==9)=false:=beq_eq_false_iff_ne.2 d9
    by_cases d7:t.kind=7
    ·have t7:(t.kind==7)=true:=beq_iff_eq.2 d7
     have HT3:Hid (RT=3+(t.items.length:Int)):=Lib.hid (by rw [HT2.out,if_neg d9,if_pos d7])
     have hw:IntKind.i64.wrap (3+(t.items.length:Int))=3+(t.items.length:Int):=by rw [IntKind.wrap_i64];omega
     clear HT2 d9 d7
     go_wp2_with fail
     go_quiet (fail)
     go_wp2_with fail
     go_ret2
     exact⟨ret_ii2 HT3.out.symm HE2.out.symm,below_drewN HB.out _⟩
    ·have t7:(t.kind==7)=false:=beq_eq_false_iff_ne.2 d7
     have HT3:Hid (RT=1):=Lib.hid (by rw [HT2.out,if_neg d9,if_neg d7])
     clear HT2 d9 d7
     go_wp2_with fail
     go_quiet (fail)
     go_wp2_with fail
     go_ret2
     exact⟨ret_ii2 HT3.out.symm HE2.out.symm,below_drewN HB.out _⟩
theorem varguments_any (E U mb b o:Nat) (at':Int) (u:RUnit) (lo fo go co:zzA) (lc fc gc cc mc:Nat) (x:RIns) (so co' go':zzA) (sc cc' gc':Nat) (w:World) (hx:VCx w E U mb at' u lo fo go co lc fc gc cc mc) (hi:IBox w b o x so co' go' sc cc' gc')
  (hn:x.op=16\/x.op=17->0<=x.n/\x.n<u.funcs.length):
  Calls Tryz.prog 172 #[.pointer (some ⟨E,0,none⟩),.pointer (some ⟨b,o,none⟩)] w fun e w'=>e= .returned (.int .i64 (argsV u x))/\ ∃q,w'=w.drewN q:=by
 have i0:=hi.c0;have i5:=hi.c5
 have HR:Hid (argsV u x=if x.op=15\/x.op=18\/x.op=19\/x.op=20\/x.op=21 then x.n else if x.op=16\/x.op=17 then((u.funcs[x.n.toNat]?).map RFunc.arity).getD 0 else if x.op=26 then 1 else 0):=Lib.hid rfl
 generalize argsV u x=R at *
 clear hi
 generalize x.op=op at *;generalize x.n=n at *
 by_cases h1:op=15\/op=18\/op=19\/op=20\/op=21
 ·have HR2:Hid (R=n):=Lib.hid (by rw [HR.out,if_pos h1])
  clear HR hx hn
  rcases h1 with rfl|rfl|rfl|rfl|rfl
  all_goals
   go_in
   go_wp2_with fail
   go_ret
   exact⟨ret_i HR2.out.symm,0,rfl⟩
 ·have t1:(op==15)=false:=by rw [beq_eq_false_iff_ne];omega
  have t2:(op==18)=false:=by rw [beq_eq_false_iff_ne];omega
  have t3:(op==19)=false:=by rw [beq_eq_false_iff_ne];omega
  have t4:(op==20)=false:=by rw [beq_eq_false_iff_ne];omega
  have t5:(op==21)=false:=by rw [beq_eq_false_iff_ne];omega
  by_cases h2:op=16\/op=17
  ·obtain⟨g1,g2⟩:=hn h2
   obtain⟨n,rfl⟩:=Int.eq_ofNat_of_zero_le g1
   have hnl:n<u.funcs.length:=by omega
   have HR2:Hid (R=(u.funcs[n]).arity):=Lib.hid (by rw [HR.out,if_neg h1,if_pos h2,Int.toNat_natCast,List.getElem?_eq_getElem hnl];rfl)
   obtain⟨fb,off,rfl,hfb,q0,q1,q2,q3,s1,s2,s3⟩:=hx.up.funcs.func hnl
   have x0:=hx.e0
   have x3:=hx.bx.c3
   clear HR hx hn h1 q0 q2 q3 s1 s2 s3
   generalize u.funcs[n]=fn at *
   have hI0:(0:Int)<=(n:Int):=by omega
   have hI1:(n:Int)<(u.funcs.length:Int):=by omega
   rcases h2 with rfl|rfl
   all_goals
    go_in
    go_wp2_with fail
    go_quiet (fail)
    go_wp2_with fail
    go_ret
    exact⟨ret_i HR2.out.symm,_,rfl⟩
  ·have t6:(op==16)=false:=by rw [beq_eq_false_iff_ne];omega
   have t7:(op==17)=false:=by rw [beq_eq_false_iff_ne];omega
   by_cases h3:op=26
   ·have t8:(op==26)=true:=beq_iff_eq.2 h3
    have HR2:Hid (R=1):=Lib.hid (by rw [HR.out,if_neg h1,if_neg h2,if_pos h3])
    clear HR hx hn h1 h2 h3
    go_in
    go_wp2_with fail
    go_ret
    exact⟨ret_i HR2.out.symm,0,rfl⟩
   ·have t8:(op==26)=false:=beq_eq_false_iff_ne.2 h3
    have HR2:Hid (R=0):=Lib.hid (by rw [HR.out,if_neg h1,if_neg h2,if_neg h3])
    clear HR hx hn h1 h2 h3
    go_in
    go_wp2_with fail
    go_ret
    exact⟨ret_i HR2.out.symm,0,rfl⟩
theorem iteT {p:Prop} [Decidable p] {e:Int} (h:p):(if(true:Bool)=true then e else 0)=if p then e else 0:=by rw [if_pos h];rfl
theorem iteF {p:Prop} [Decidable p] {e:Int} (h: ¬p):(if(false:Bool)=true then e else 0)=if p then e else 0:=by rw [if_neg h];rfl
theorem vtypes_any (E U mb p b o:Nat) (at':Int) (u:RUnit) (lo fo go co:zzA) (lc fc gc cc mc:Nat) (x:RIns) (s:VSt) (so co' go':zzA) (sc cc' gc':Nat) (w:World) (hx:VCx w E U mb at' u lo fo go co lc fc gc cc mc) (hi:IBox w b o x so co' go' sc cc' gc') (hs:StAt w p s) (ho:StOk s) (hl:LitsLen u)
  (hn:x.op=5->0<=x.n/\x.n<=254) (hsrc:x.op=5\/x.op=6\/x.op=7->0<x.src.length/\ArgOk u s (src0 x)):
  Calls Tryz.prog 126 #[.pointer (some ⟨E,0,none⟩),.pointer (some ⟨p,0,none⟩),.pointer (some ⟨b,o,none⟩)] w fun e w'=>e= .returned (.int .i64 (typesV u s x))/\Below w.heap.size w w':=by
 have i0:=hi.c0;have i3:=hi.c3;have i5:=hi.c5
 refine zzK3 hi hx hs fun HI HX HS=>?_
 have HR:Hid (typesV u s x=if x.op=5 then(if kindT u s (src0 x)<3+x.n+1 then 180 else 0)else if x.op=6\/x.op=7 then(if kindT u s (src0 x)≠2 then 180 else 0)else 0):=Lib.hid rfl
 generalize typesV u s x=R at *
 clear hx hs
 by_cases h5:x.op=5\/x.op=6\/x.op=7
 ·obtain⟨hl0,hao⟩:=hsrc h5
  obtain⟨sb,off,rfl,hsb,q0,q1,-,-⟩:=hi.src.arg hl0
  have hsrc0:src0 x=x.src[0]:=by
   unfold src0
   rw [List.headD_eq_head?_getD,List.head?_eq_getElem?,List.getElem?_eq_getElem hl0];rfl
  have hkind:=fun(wx:World) (hb:Below w.heap.size w wx)=>vkind_any E U mb p at' u lo fo go co lc fc gc cc mc s (src0 x) wx (HX.out.below hb) (HS.out.below hb) ho hao hl
  rw [<-hsrc0]at q0 q1
  simp only [Nat.zero_mul,Nat.add_zero]at q0 q1
  have HK:=Lib.hid hkind
  have hn5:=hn
  clear hkind hi hn hsrc hao hsrc0
  generalize kindT u s (src0 x)=kt at *
  generalize src0 x=a at *
  have hI1:(0:Int)<(x.src.length:Int):=by omega
  generalize x.src.length=sl at *
  generalize hop:x.op=op at *
  clear hop
  by_cases c5:op=5
  ·subst c5
   obtain⟨g1,g2⟩:=hn5 rfl
   have HR2:Hid (R=if kt<3+x.n+1 then 180 else 0):=Lib.hid (by rw [HR.out,if_pos rfl])
   have hw1:IntKind.i64.wrap (3+x.n)=3+x.n:=by rw [IntKind.wrap_i64];omega
   have hw2:IntKind.i64.wrap (3+x.n+1)=3+x.n+1:=by rw [IntKind.wrap_i64];omega
   clear HR h5 hn5
   by_cases d:kt<3+x.n+1
   ·have t0:decide (kt<3+x.n+1)=true:=decide_eq_true d
    have HR3:=Lib.hid ((iteT (e:=180) d).trans HR2.out.symm)
    clear d HR2
    go_in
    go_wp2_with fail
    refine(HK.out _ (Below.refl _ _)).mono ?_
    rintro e w1 ⟨rfl,hb1⟩
    have j5:=(HI.out.below hb1).c5
    go_wp2_with fail
    refine(when_any _ _ _).mono ?_
    rintro e w1 ⟨rfl,rfl⟩
    go_wp2_with fail
    go_ret
    exact⟨ret_i HR3.out,hb1⟩
   ·have t0:decide (kt<3+x.n+1)=false:=decide_eq_false d
    have HR3:=Lib.hid ((iteF (e:=180) d).trans HR2.out.symm)
    clear d HR2
    go_in
    go_wp2_with fail
    refine(HK.out _ (Below.refl _ _)).mono ?_
    rintro e w1 ⟨rfl,hb1⟩
    have j5:=(HI.out.below hb1).c5
    go_wp2_with fail
    refine(when_any _ _ _).mono ?_
    rintro e w1 ⟨rfl,rfl⟩
    go_wp2_with fail
    go_ret
    exact⟨ret_i HR3.out,hb1⟩
  ·have c67:op=6\/op=7:=by omega
   have HR2:Hid (R=if kt≠2 then 180 else 0):=Lib.hid (by rw [HR.out,if_neg c5,if_pos c67])
   clear HR h5 hn5 c5 i5
   by_cases d:kt≠2
   ·have t0 : (kt != 2) = true := by simpa using d
    have HR3:=Lib.hid ((iteT (e:=180) d).trans HR2.out.symm)
    clear d HR2
    rcases c67 with rfl|rfl
    all_goals
     go_in
     go_wp2_with fail
     refine(HK.out _ (Below.refl _ _)).mono ?_
     rintro e w1 ⟨rfl,hb1⟩
     go_wp2_with fail
     refine(when_any _ _ _).mono ?_
     rintro e w1 ⟨rfl,rfl⟩
     go_wp2_with fail
     go_ret
     exact⟨ret_i HR3.out,hb1⟩
   ·have t0 : (kt != 2) = false := by simpa using d
    have HR3:=Lib.hid ((iteF (e:=180) d).trans HR2.out.symm)
    clear d HR2
    rcases c67 with rfl|rfl
    all_goals
     go_in
     go_wp2_with fail
     refine(HK.out _ (Below.refl _ _)).mono ?_
     rintro e w1 ⟨rfl,hb1⟩
     go_wp2_with fail
     refine(when_any _ _ _).mono ?_
     rintro e w1 ⟨rfl,rfl⟩
     go_wp2_with fail
     go_ret
     exact⟨ret_i HR3.out,hb1⟩
 ·have HR2:Hid (R=0):=Lib.hid (by rw [HR.out,if_neg (by omega),if_neg (by omega)])
  have t1:(x.op==5)=false:=by rw [beq_eq_false_iff_ne];omega
  have t2:(x.op==6)=false:=by rw [beq_eq_false_iff_ne];omega
  have t3:(x.op==7)=false:=by rw [beq_eq_false_iff_ne];omega
  clear h5 HR hsrc hn hi
  generalize x.op=op at *
  go_in
  go_wp2_with fail
  go_ret
  exact⟨ret_i HR2.out.symm,Below.refl _ _⟩
theorem open_cases {op:Int} (h:openV op=true):op=1\/op=5\/op=6\/op=7\/op=8\/op=9\/op=10\/op=11\/op=12\/op=13\/op=30\/op=31\/op=32\/op=33\/op=34:=by
 have:=of_decide_eq_true h
 simpa using this
theorem vreceive_any (E p b o:Nat) (x:RIns) (s:VSt) (so co' go':zzA) (sc cc' gc':Nat) (w:World) (hi:IBox w b o x so co' go' sc cc' gc') (hs:StAt w p s):
  Calls Tryz.prog 127 #[.pointer (some ⟨E,0,none⟩),.pointer (some ⟨p,0,none⟩),.pointer (some ⟨b,o,none⟩)] w fun e w'=>e= .returned (.int .i64 (receiveV s x))/\w'=w:=by
 have i0:=hi.c0
 obtain⟨xo,xc,yo,yc,to',tc,c0,c1,c2,c3,c4,c5,c6,hL⟩:=hs.cells
 have HR:Hid (receiveV s x=if x.op=37\/x.op=40 then(if s.recv≠1 then 184 else 0)else if x.op=38\/x.op=39 then(if s.recv≠2 then 184 else 0)else if openV x.op=true then 0 else if s.recv≠0 then 184 else 0):=Lib.hid rfl
 generalize receiveV s x=R at *
 clear hi hs hL c0 c1 c2 c3 c4 c6
 generalize s.recv=rc at *
 generalize x.op=op at *
 by_cases h1:op=37\/op=40
 ·have HR2:Hid (R=if rc≠1 then 184 else 0):=Lib.hid (by rw [HR.out,if_pos h1])
  clear HR
  by_cases d:rc≠1
  ·have t0 : (rc != 1) = true := by simpa using d
   have HR3:=Lib.hid ((iteT (e:=184) d).trans HR2.out.symm)
   clear d HR2
   rcases h1 with rfl|rfl
   all_goals
    go_in
    go_wp2_with fail
    refine(when_any _ _ _).mono ?_
    rintro e w1 ⟨rfl,rfl⟩
    go_wp2_with fail
    go_ret
    exact⟨ret_i HR3.out,rfl⟩
  ·have t0 : (rc != 1) = false := by simpa using d
   have HR3:=Lib.hid ((iteF (e:=184) d).trans HR2.out.symm)
   clear d HR2
   rcases h1 with rfl|rfl
   all_goals
    go_in
    go_wp2_with fail
    refine(when_any _ _ _).mono ?_
    rintro e w1 ⟨rfl,rfl⟩
    go_wp2_with fail
    go_ret
    exact⟨ret_i HR3.out,rfl⟩
 ·have s1:(op==37)=false:=by rw [beq_eq_false_iff_ne];omega
  have s2:(op==40)=false:=by rw [beq_eq_false_iff_ne];omega
  by_cases h2:op=38\/op=39
  ·have HR2:Hid (R=if rc≠2 then 184 else 0):=Lib.hid (by rw [HR.out,if_neg h1,if_pos h2])
   clear HR h1
   by_cases d:rc≠2
   ·have t0 : (rc != 2) = true := by simpa using d
    have HR3:=Lib.hid ((iteT (e:=184) d).trans HR2.out.symm)
    clear d HR2
    rcases h2 with rfl|rfl
    all_goals
     go_in
     go_wp2_with fail
     refine(when_any _ _ _).mono ?_
     rintro e w1 ⟨rfl,rfl⟩
     go_wp2_with fail
     go_ret
     exact⟨ret_i HR3.out,rfl⟩
   ·have t0 : (rc != 2) = false := by simpa using d
    have HR3:=Lib.hid ((iteF (e:=184) d).trans HR2.out.symm)
    clear d HR2
    rcases h2 with rfl|rfl
    all_goals
     go_in
     go_wp2_with fail
     refine(when_any _ _ _).mono ?_
     rintro e w1 ⟨rfl,rfl⟩
     go_wp2_with fail
     go_ret
     exact⟨ret_i HR3.out,rfl⟩
  ·have s3:(op==38)=false:=by rw [beq_eq_false_iff_ne];omega
   have s4:(op==39)=false:=by rw [beq_eq_false_iff_ne];omega
   by_cases h3:openV op=true
   ·have HR2:Hid (R=0):=Lib.hid (by rw [HR.out,if_neg h1,if_neg h2,if_pos h3])
    clear HR h1 h2 c5
    rcases open_cases h3 with rfl|rfl|rfl|rfl|rfl|rfl|rfl|rfl|rfl|rfl|rfl|rfl|rfl|rfl|rfl
    all_goals
     go_in
     go_wp2_with fail
     go_ret
     exact⟨ret_i HR2.out.symm,rfl⟩
   ·have HR2:Hid (R=if rc≠0 then 184 else 0):=Lib.hid (by rw [HR.out,if_neg h1,if_neg h2,if_neg h3])
    have ho: ¬(op=1\/op=5\/op=6\/op=7\/op=8\/op=9\/op=10\/op=11\/op=12\/op=13\/op=30\/op=31\/op=32\/op=33\/op=34):=fun g=>h3 (decide_eq_true (by simpa using g))
    have u0:(op==1)=false:=by rw [beq_eq_false_iff_ne];omega
    have u1:(op==5)=false:=by rw [beq_eq_false_iff_ne];omega
    have u2:(op==6)=false:=by rw [beq_eq_false_iff_ne];omega
    have u3:(op==7)=false:=by rw [beq_eq_false_iff_ne];omega
    have u4:(op==8)=false:=by rw [beq_eq_false_iff_ne];omega
    have u5:(op==9)=false:=by rw [beq_eq_false_iff_ne];omega
    have u6:(op==10)=false:=by rw [beq_eq_false_iff_ne];omega
    have u7:(op==11)=false:=by rw [beq_eq_false_iff_ne];omega
    have u8:(op==12)=false:=by rw [beq_eq_false_iff_ne];omega
    have u9:(op==13)=false:=by rw [beq_eq_false_iff_ne];omega
    have u10:(op==30)=false:=by rw [beq_eq_false_iff_ne];omega
    have u11:(op==31)=false:=by rw [beq_eq_false_iff_ne];omega
    have u12:(op==32)=false:=by rw [beq_eq_false_iff_ne];omega
    have u13:(op==33)=false:=by rw [beq_eq_false_iff_ne];omega
    have u14:(op==34)=false:=by rw [beq_eq_false_iff_ne];omega
    clear HR h1 h2 h3 ho
    by_cases d:rc≠0
    ·have t0 : (rc != 0) = true := by simpa using d
     have HR3:=Lib.hid ((iteT (e:=184) d).trans HR2.out.symm)
     clear d HR2
     go_in
     go_wp2_with fail
     refine(when_any _ _ _).mono ?_
     rintro e w1 ⟨rfl,rfl⟩
     go_wp2_with fail
     go_ret
     exact⟨ret_i HR3.out,rfl⟩
    ·have t0 : (rc != 0) = false := by simpa using d
     have HR3:=Lib.hid ((iteF (e:=184) d).trans HR2.out.symm)
     clear d HR2
     go_in
     go_wp2_with fail
     refine(when_any _ _ _).mono ?_
     rintro e w1 ⟨rfl,rfl⟩
     go_wp2_with fail
     go_ret
     exact⟨ret_i HR3.out,rfl⟩
theorem vcheck1_any (E p b o:Nat) (x:RIns) (s:VSt) (so co' go':zzA) (sc cc' gc':Nat) (w:World) (hi:IBox w b o x so co' go' sc cc' gc') (hs:StAt w p s):
  Calls Tryz.prog 128 #[.pointer (some ⟨E,0,none⟩),.pointer (some ⟨p,0,none⟩),.pointer (some ⟨b,o,none⟩)] w fun e w'=>e= .returned (.int .i64 (matchV s x))/\w'=w:=by
 have i0:=hi.c0
 obtain⟨xo,xc,yo,yc,to',tc,c0,c1,c2,c3,c4,c5,c6,hL⟩:=hs.cells
 have HR:Hid (matchV s x=if s.mt=false/\31<=x.op/\x.op<=34 then 183 else 0):=Lib.hid rfl
 generalize matchV s x=R at *
 clear hi hs hL c0 c1 c2 c3 c5 c6
 generalize s.mt=mt at *
 generalize x.op=op at *
 cases mt with
 |true=>
  have HR2:Hid ((0:Int)=R):=Lib.hid (by rw [HR.out,if_neg (by simp)])
  clear HR
  go_in
  go_wp2_with (go_at_call 129;refine(when_any _ _ _).mono ?_;rintro e w1 ⟨rfl,rfl⟩)
  go_ret
  exact⟨ret_i HR2.out,rfl⟩
 |false=>
  by_cases h1:31<=op
  ·have t1:decide (31<=op)=true:=decide_eq_true h1
   by_cases h2:op<=34
   ·have t2:decide (op<=34)=true:=decide_eq_true h2
    have HR2:Hid ((183:Int)=R):=Lib.hid (by rw [HR.out,if_pos ⟨rfl,h1,h2⟩])
    clear HR h1 h2
    go_in
    go_wp2_with (go_at_call 129;refine(when_any _ _ _).mono ?_;rintro e w1 ⟨rfl,rfl⟩)
    go_ret
    exact⟨ret_i HR2.out,rfl⟩
   ·have t2:decide (op<=34)=false:=decide_eq_false h2
    have HR2:Hid ((0:Int)=R):=Lib.hid (by rw [HR.out,if_neg (fun g=>h2 g.2.2)])
    clear HR h1 h2
    go_in
    go_wp2_with (go_at_call 129;refine(when_any _ _ _).mono ?_;rintro e w1 ⟨rfl,rfl⟩)
    go_ret
    exact⟨ret_i HR2.out,rfl⟩
  ·have t1:decide (31<=op)=false:=decide_eq_false h1
   have HR2:Hid ((0:Int)=R):=Lib.hid (by rw [HR.out,if_neg (fun g=>h1 g.2.1)])
   clear HR h1
   go_in
   go_wp2_with (go_at_call 129;refine(when_any _ _ _).mono ?_;rintro e w1 ⟨rfl,rfl⟩)
   go_ret
   exact⟨ret_i HR2.out,rfl⟩
theorem vcheck2_any (E p b o:Nat) (x:RIns) (s:VSt) (so co' go':zzA) (sc cc' gc':Nat) (w:World) (hi:IBox w b o x so co' go' sc cc' gc') (hs:StAt w p s):
  Calls Tryz.prog 130 #[.pointer (some ⟨E,0,none⟩),.pointer (some ⟨p,0,none⟩),.pointer (some ⟨b,o,none⟩)] w fun e w'=>e= .returned (.int .i64 (frameV s x))/\w'=w:=by
 have i0:=hi.c0
 obtain⟨xo,xc,yo,yc,to',tc,c0,c1,c2,c3,c4,c5,c6,hL⟩:=hs.cells
 have HR:Hid (frameV s x=if 0<=s.frame/\(x.op=24\/leavesV x.op=true)\/s.frame<0/\x.op=25 then 181 else 0):=Lib.hid rfl
 have hlv:=fun wx=>vleaves_any x.op wx
 generalize frameV s x=R at *
 clear hi hs hL c1 c2 c3 c4 c5 c6
 generalize s.frame=fr at *
 generalize leavesV x.op=lv at *
 generalize x.op=op at *
 have HLV:=Lib.hid hlv
 clear hlv
 by_cases h1:0<=fr
 ·have t1:decide (0<=fr)=true:=decide_eq_true h1
  by_cases h2:op=24
  ·have t2:(op==24)=true:=beq_iff_eq.2 h2
   have HR2:Hid ((181:Int)=R):=Lib.hid (by rw [HR.out,if_pos (.inl ⟨h1,.inl h2⟩)])
   clear HR h1 h2
   go_in
   go_wp2_with (first|(go_at_call 129;refine(when_any _ _ _).mono ?_;rintro e w1 ⟨rfl,rfl⟩)|(go_at_call 131;refine(HLV.out _).mono ?_;rintro e w1 ⟨rfl,rfl⟩))
   go_ret
   exact⟨ret_i HR2.out,rfl⟩
  ·have t2:(op==24)=false:=beq_eq_false_iff_ne.2 h2
   cases lv with
   |true=>
    have HR2:Hid ((181:Int)=R):=Lib.hid (by rw [HR.out,if_pos (.inl ⟨h1,.inr rfl⟩)])
    clear HR h1 h2
    go_in
    go_wp2_with (first|(go_at_call 129;refine(when_any _ _ _).mono ?_;rintro e w1 ⟨rfl,rfl⟩)|(go_at_call 131;refine(HLV.out _).mono ?_;rintro e w1 ⟨rfl,rfl⟩))
    go_ret
    exact⟨ret_i HR2.out,rfl⟩
   |false=>
    have HR2:Hid ((0:Int)=R):=Lib.hid (by rw [HR.out,if_neg (by rintro(⟨-,g|g⟩|⟨g,-⟩);exact h2 g;cases g;omega)])
    clear HR h1 h2
    go_in
    go_wp2_with (first|(go_at_call 129;refine(when_any _ _ _).mono ?_;rintro e w1 ⟨rfl,rfl⟩)|(go_at_call 131;refine(HLV.out _).mono ?_;rintro e w1 ⟨rfl,rfl⟩))
    go_ret
    exact⟨ret_i HR2.out,rfl⟩
 ·have t1:decide (0<=fr)=false:=decide_eq_false h1
  by_cases h2:op=25
  ·have t2:(op==25)=true:=beq_iff_eq.2 h2
   have HR2:Hid ((181:Int)=R):=Lib.hid (by rw [HR.out,if_pos (.inr ⟨by omega,h2⟩)])
   clear HR h1 h2
   go_in
   go_wp2_with (first|(go_at_call 129;refine(when_any _ _ _).mono ?_;rintro e w1 ⟨rfl,rfl⟩)|(go_at_call 131;refine(HLV.out _).mono ?_;rintro e w1 ⟨rfl,rfl⟩))
   go_ret
   exact⟨ret_i HR2.out,rfl⟩
  ·have t2:(op==25)=false:=beq_eq_false_iff_ne.2 h2
   have HR2:Hid ((0:Int)=R):=Lib.hid (by rw [HR.out,if_neg (by rintro(⟨g,-⟩|⟨-,g⟩);exact h1 g;exact h2 g)])
   clear HR h1 h2
   go_in
   go_wp2_with (first|(go_at_call 129;refine(when_any _ _ _).mono ?_;rintro e w1 ⟨rfl,rfl⟩)|(go_at_call 131;refine(HLV.out _).mono ?_;rintro e w1 ⟨rfl,rfl⟩))
   go_ret
   exact⟨ret_i HR2.out,rfl⟩
theorem vcheck3_any (E U mb p b o i:Nat) (u:RUnit) (lo fo go co:zzA) (lc fc gc cc mc:Nat) (x:RIns) (s:VSt) (so co' go':zzA) (sc cc' gc':Nat) (w:World) (hx:VCx w E U mb i u lo fo go co lc fc gc cc mc) (hi:IBox w b o x so co' go' sc cc' gc') (hs:StAt w p s) (ls:VLen s):
  Calls Tryz.prog 132 #[.pointer (some ⟨E,0,none⟩),.pointer (some ⟨p,0,none⟩),.pointer (some ⟨b,o,none⟩)] w fun e w'=>e= .returned (.int .i64 (triesV i s x))/\ ∃q,w'=w.drewN q:=by
 have i0:=hi.c0
 have x2:=hx.e2
 have lt:=ls.t
 obtain⟨xo,xc,yo,yc,to',tc,c0,c1,c2,c3,c4,c5,c6,hL⟩:=hs.cells
 have HR:Hid (triesV i s x=if s.tries.length=0 then(if x.op=29 then 182 else 0)else if leavesV x.op=true\/raises x.op=true/\lastT s.tries<=i then 182 else 0):=Lib.hid rfl
 have hlv:=fun wx=>vleaves_any x.op wx
 have hrs: ∀wx,Calls Tryz.prog 133 #[.int .i64 x.op] wx fun e w'=>e= .returned (.bool (raises x.op))/\w'=wx:=fun wx=>(raises_any x.op wx).mono fun _ _ ⟨a,b⟩=>⟨a,b.symm⟩
 generalize triesV i s x=R at *
 clear hi hs hx c0 c1 c2 c4 c5 c6
 generalize leavesV x.op=lv at *
 generalize raises x.op=rs at *
 generalize x.op=op at *
 have HLV:=Lib.hid hlv;have HRS:=Lib.hid hrs
 clear hlv hrs
 by_cases h0:s.tries.length=0
 ·have t0:((s.tries.length:Int)==0)=true:=by rw [beq_iff_eq];omega
  by_cases h1:op=29
  ·have t1:(op==29)=true:=beq_iff_eq.2 h1
   have HR2:Hid ((182:Int)=R):=Lib.hid (by rw [HR.out,if_pos h0,if_pos h1])
   clear HR h0 h1 hL
   generalize s.tries.length=n at *
   go_in
   go_wp2_with (go_at_call 129;refine(when_any _ _ _).mono ?_;rintro e w1 ⟨rfl,rfl⟩)
   go_ret
   exact⟨ret_i HR2.out,0,rfl⟩
  ·have t1:(op==29)=false:=beq_eq_false_iff_ne.2 h1
   have HR2:Hid ((0:Int)=R):=Lib.hid (by rw [HR.out,if_pos h0,if_neg h1])
   clear HR h0 h1 hL
   generalize s.tries.length=n at *
   go_in
   go_wp2_with (go_at_call 129;refine(when_any _ _ _).mono ?_;rintro e w1 ⟨rfl,rfl⟩)
   go_ret
   exact⟨ret_i HR2.out,0,rfl⟩
 ·have t0:((s.tries.length:Int)==0)=false:=by rw [beq_eq_false_iff_ne];omega
  obtain⟨n,hn⟩: ∃n,s.tries.length=n+1:=⟨s.tries.length-1,by omega⟩
  obtain⟨tb,tf,rfl,htb,z⟩:=hL.t.cell (k:=n) (by omega)
  have hlast:lastT s.tries=s.tries.getD n 0:=by unfold lastT;rw [hn];rfl
  have HR1:Hid (R=if lv=true\/rs=true/\lastT s.tries<=i then 182 else 0):=Lib.hid (by rw [HR.out,if_neg h0])
  rw [hlast]at HR1
  generalize s.tries.getD n 0=l at *
  have hw:IntKind.i64.wrap (((n+1:Nat):Int)-1)=(n:Int):=by rw [IntKind.wrap_i64];omega
  rw [hn]at c3 t0 lt
  clear HR h0 hL hn hlast
  have hI0:(0:Int)<=(n:Int):=by omega
  have hI1:(n:Int)<((n+1:Nat):Int):=by omega
  cases lv with
  |true=>
   have HR2:Hid ((182:Int)=R):=Lib.hid (by rw [HR1.out,if_pos (.inl rfl)])
   clear HR1
   go_in
   go_wp2_with fail
   go_quiet (first|(go_at_call 131;exact Calls.quiet_of_same (HLV.out _))|(go_at_call 133;exact Calls.quiet_of_same (HRS.out _))|(go_at_call 129;exact Calls.quiet_of_same (when_any _ _ _)))
   go_wp2_with fail
   go_ret
   exact⟨ret_i HR2.out,_,rfl⟩
  |false=>
   cases rs with
   |false=>
    have HR2:Hid ((0:Int)=R):=Lib.hid (by rw [HR1.out,if_neg (by simp)])
    clear HR1
    go_in
    go_wp2_with fail
    go_quiet (first|(go_at_call 131;exact Calls.quiet_of_same (HLV.out _))|(go_at_call 133;exact Calls.quiet_of_same (HRS.out _))|(go_at_call 129;exact Calls.quiet_of_same (when_any _ _ _)))
    go_wp2_with fail
    go_ret
    exact⟨ret_i HR2.out,_,rfl⟩
   |true=>
    by_cases h2:l<=(i:Int)
    ·have t2:decide (l<=(i:Int))=true:=decide_eq_true h2
     have HR2:Hid ((182:Int)=R):=Lib.hid (by rw [HR1.out,if_pos (.inr ⟨rfl,h2⟩)])
     clear HR1 h2
     go_in
     go_wp2_with fail
     go_quiet (first|(go_at_call 131;exact Calls.quiet_of_same (HLV.out _))|(go_at_call 133;exact Calls.quiet_of_same (HRS.out _))|(go_at_call 129;exact Calls.quiet_of_same (when_any _ _ _)))
     go_wp2_with fail
     go_ret
     exact⟨ret_i HR2.out,_,rfl⟩
    ·have t2:decide (l<=(i:Int))=false:=decide_eq_false h2
     have HR2:Hid ((0:Int)=R):=Lib.hid (by rw [HR1.out,if_neg (by rintro(g|g);cases g;exact h2 g.2)])
     clear HR1 h2
     go_in
     go_wp2_with fail
     go_quiet (first|(go_at_call 131;exact Calls.quiet_of_same (HLV.out _))|(go_at_call 133;exact Calls.quiet_of_same (HRS.out _))|(go_at_call 129;exact Calls.quiet_of_same (when_any _ _ _)))
     go_wp2_with fail
     go_ret
     exact⟨ret_i HR2.out,_,rfl⟩
structure EffOk (u:RUnit) (s:VSt) (x:RIns):Prop where
 src1:x.op=1->0<x.src.length/\ArgOk u s (src0 x)
 srcp:x.op=9\/x.op=10->0<x.src.length/\((src0 x).kind=1->0<=(src0 x).n/\(src0 x).n<=255)/\((src0 x).kind=2->0<=(src0 x).n/\(src0 x).n<s.y.length)
 srcl:x.src.length<=1000
 dstx:x.dst.kind=1->0<=x.dst.n/\x.dst.n<=255
 dsty:x.dst.kind=2->0<=x.dst.n/\x.dst.n<s.y.length
 live:0<=x.live/\x.live<=256
 tup:x.op=9->0<=x.n/\x.n<=255
 frm:x.op=24->1<=x.n/\x.n<=8192
 tri:x.op=29->s.tries≠ []
section
variable {u:RUnit} {s:VSt}
theorem firstE_bad {a:RArg} {l:List RArg} (h:kindE s a≠0):firstE s (a::l)=kindE s a:=by rw [firstE,if_pos h]
theorem firstE_good {a:RArg} {l:List RArg} (h:kindE s a=0):firstE s (a::l)=firstE s l:=by rw [firstE,if_neg (by simp [h])]
theorem src_bad {l r:List RArg} {k:Nat} (hk:k<l.length) (h:kindE s l[k]≠0):firstE s (l.drop k++r)=kindE s l[k]:=by
 rw [drop_step hk,List.cons_append,firstE_bad h]
theorem src_good {l r:List RArg} {k:Nat} (hk:k<l.length) (h:kindE s l[k]=0):firstE s (l.drop k++r)=firstE s (l.drop (k+1)++r):=by
 rw [drop_step hk,List.cons_append,firstE_good h]
theorem seg_drop {l:List RSeg} {k:Nat} (hk:k<l.length):segArgs (l.drop k)=l[k].val::(if l[k].size.kind=0/\l[k].size.n=0 then segArgs (l.drop (k+1))else l[k].size::segArgs (l.drop (k+1))):=by
 rw [drop_step hk];rfl
theorem regs_drop (n:Nat) {k:Nat} (hk:k<n):(regsV n).drop k=⟨1,(k:Int)⟩::(regsV n).drop (k+1):=by
 rw [drop_step (by unfold regsV;simpa using hk)]
 unfold regsV
 simp
end
structure OpdOk (u:RUnit) (s:VSt) (x:RIns):Prop where
 src: ∀a∈x.src,ArgOk u s a
 val: ∀g∈x.segs,ArgOk u s g.val
 size: ∀g∈x.segs,¬(g.size.kind=0/\g.size.n=0)->ArgOk u s g.size
 args:x.op=16\/x.op=17->0<=x.n/\x.n<u.funcs.length
 num:0<=argsV u x/\argsV u x<=1000
 srcLen:x.src.length<=1000
 segsLen:x.segs.length<=1000
theorem voperands_any (E U mb p b o:Nat) (at':Int) (u:RUnit) (lo fo go co:zzA) (lc fc gc cc mc:Nat) (x:RIns) (s:VSt) (so co' go':zzA) (sc cc' gc':Nat) (w:World) (hx:VCx w E U mb at' u lo fo go co lc fc gc cc mc) (hi:IBox w b o x so co' go' sc cc' gc') (hs:StAt w p s) (ho:StOk s) (hl:LitsLen u) (ha:OpdOk u s x):
  Calls Tryz.prog 125 #[.pointer (some ⟨E,0,none⟩),.pointer (some ⟨p,0,none⟩),.pointer (some ⟨b,o,none⟩)] w fun e w'=>e= .returned (.int .i64 (operandsV u s x))/\Below w.heap.size w w':=by
 refine zzK4 hi hx hs ha fun HI HX HS HA=>?_
 have hsl:=ha.srcLen;have hgl:=ha.segsLen
 have HR:Hid (operandsV u s x=if firstE s (x.src++(segArgs x.segs++regsV (argsV u x).toNat))≠0 then firstE s (x.src++(segArgs x.segs++regsV (argsV u x).toNat))else if x.dst.kind=2/\s.frame<=x.dst.n then 181 else 0):=Lib.hid rfl
 generalize operandsV u s x=R at *
 have hkind:=fun(a:RArg) (h:ArgOk u s a) (wx:World) (hb:Below w.heap.size w wx)=>vkind_any E U mb p at' u lo fo go co lc fc gc cc mc s a wx (HX.out.below hb) (HS.out.below hb) ho h hl
 have HK:=Lib.hid hkind
 have i3:=hi.c3;have i9:=hi.c9
 clear hkind hx hi hs ha
 obtain⟨F,hF⟩: ∃F,F=firstE s (x.src++(segArgs x.segs++regsV (argsV u x).toNat)):=⟨_,rfl⟩
 rw [<-hF]at HR
 have HF:=Lib.hid hF
 clear hF
 go_in
 go_wp2_with fail
 go_loopw [23] (fun iv wr=> ∃k:Nat,k<=x.src.length/\iv= .int .i64 k/\Hid (F=firstE s (x.src.drop k++(segArgs x.segs++regsV (argsV u x).toNat)))/\Hid (Below w.heap.size w wr)) (fun iv _=>x.src.length-(intOf iv).toNat)
 case atStart=>exact⟨0,Nat.zero_le _,rfl,Lib.hid (by rw [List.drop_zero];exact HF.out),Lib.hid (Below.refl _ _)⟩
 case round=>
  obtain⟨k,hk,rfl,HFk,HB⟩:=hrel
  rename World=>wr
  by_cases hlt:k<x.src.length
  ·as_aux_lemma=>
   obtain⟨sb,off,hso,hsb,q0,q1,-,-⟩:=(HI.out.below HB.out).src.arg hlt
   subst hso
   have hao:=HA.out.src _ (List.getElem_mem hlt)
   have hbad:=src_bad (s:=s) (r:=segArgs x.segs++regsV (argsV u x).toNat) hlt
   have hgood:=src_good (s:=s) (r:=segArgs x.segs++regsV (argsV u x).toNat) hlt
   have hcall:=HK.out _ hao
   have HBAD:=Lib.hid hbad;have HGOOD:=Lib.hid hgood
   clear hbad hgood
   generalize x.src[k]=a at *
   generalize hke:kindE s a=ke at *
   generalize kindT u s a=kt at *
   have HC:=Lib.hid hcall
   clear hcall hke
   have hI0:(0:Int)<=(k:Int):=by omega
   have hI1:(k:Int)<(x.src.length:Int):=by omega
   have hB2:Below w.heap.size w (wr.alloc (.cells #[.int .i64 a.kind,.int .i64 a.n] 68)):=HB.out.alloc HB.out.size _
   have HB2:=Lib.hid hB2
   have hrow:=heap_alloc_new wr (.cells #[.int .i64 a.kind,.int .i64 a.n] 68)
   clear hB2
   by_cases h0:ke=0
   ·have t0 : (ke != 0) = false := by rw [h0]; rfl
    have HF2:Hid (F=firstE s (x.src.drop (k+1)++(segArgs x.segs++regsV (argsV u x).toNat))):=Lib.hid (by rw [HFk.out];exact HGOOD.out h0)
    clear h0
    go_wp2_with fail
    refine(HC.out _ HB2.out).mono ?_
    rintro e w1 ⟨rfl,hb1⟩
    have HB3:=Lib.hid (HB2.out.trans (hb1.mono HB2.out.size))
    clear hb1 hrow
    go_wp2_with fail
    exact⟨⟨k+1,hlt,by go_num,HF2,HB3⟩,by simp [intOf];omega⟩
   ·have t0 : (ke != 0) = true := by simpa using h0
    have HF2:Hid (R=ke):=Lib.hid (by
     have e:=HBAD.out h0
     rw [<-HFk.out]at e
     rw [HR.out,e,if_pos h0])
    clear h0
    go_wp2_with fail
    refine(HC.out _ HB2.out).mono ?_
    rintro e w1 ⟨rfl,hb1⟩
    have HB3:=Lib.hid (HB2.out.trans (hb1.mono HB2.out.size))
    clear hb1 hrow
    go_wp2_with fail
    go_ret
    exact⟨ret_i HF2.out.symm,HB3.out⟩
  ·obtain rfl:k=x.src.length:=by omega
   have HF1:Hid (F=firstE s (segArgs x.segs++regsV (argsV u x).toNat)):=Lib.hid (by rw [HFk.out,List.drop_eq_nil_of_le (Nat.le_refl _)];rfl)
   have j9:=(HI.out.below HB.out).c9
   clear HFk HF
   go_wp2_with fail
   go_loopw [43] (fun iv wx=> ∃k:Nat,k<=x.segs.length/\iv= .int .i64 k/\Hid (F=firstE s (segArgs (x.segs.drop k)++regsV (argsV u x).toNat))/\Hid (Below w.heap.size w wx)) (fun iv _=>x.segs.length-(intOf iv).toNat)
   case atStart=>exact⟨0,Nat.zero_le _,rfl,Lib.hid (by rw [List.drop_zero];exact HF1.out),HB⟩
   case round=>
    obtain⟨k,hk,rfl,HFk,HB⟩:=hrel
    rename World=>wx
    by_cases hlt:k<x.segs.length
    ·have hgd:=seg_drop hlt
     have hmem:=List.getElem_mem hlt
     have hao:=HA.out.val _ hmem
     have hbo:=HA.out.size _ hmem
     obtain⟨sb,off,hso,hsb,q0,q1,q2,q3,q4,q5,-⟩:=(HI.out.below HB.out).segs.seg hlt
     subst hso
     generalize x.segs[k]=g at *
     have hcv:=HK.out _ hao
     have hcs:=HK.out g.size
     generalize hkv:kindE s g.val=kv at *
     generalize kindT u s g.val=tv at *
     generalize hks:kindE s g.size=ks at *
     generalize kindT u s g.size=ts at *
     refine zzK4 hcv hcs hbo hgd fun HCV HCS HBO HGD=>?_
     have HKV:=Lib.hid hkv;have HKS:=Lib.hid hks
     clear hcv hcs hbo hgd hkv hks hao hmem
     have hI0:(0:Int)<=(k:Int):=by omega
     have hI1:(k:Int)<(x.segs.length:Int):=by omega
     have hB2:Below w.heap.size w (wx.alloc (.cells #[.int .i64 g.type,.int .i64 g.val.kind,.int .i64 g.val.n,.int .i64 g.size.kind,.int .i64 g.size.n,.bool g.little] 127)):=HB.out.alloc HB.out.size _
     have hrow:=heap_alloc_new wx (.cells #[.int .i64 g.type,.int .i64 g.val.kind,.int .i64 g.val.n,.int .i64 g.size.kind,.int .i64 g.size.n,.bool g.little] 127)
     go_upto_region 11 with fail
     generalize wx.alloc (.cells #[.int .i64 g.type,.int .i64 g.val.kind,.int .i64 g.val.n,.int .i64 g.size.kind,.int .i64 g.size.n,.bool g.little] 127)=V at *
     generalize wx.heap.size=X at *
     have HB2:=Lib.hid hB2;have HROW:=Lib.hid hrow
     have y1:V.cell? ⟨X,1,none⟩=some (.int .i64 g.val.kind):=by rw [cell_of_row _ _ _ _ _ _ hrow];rfl
     have y2:V.cell? ⟨X,2,none⟩=some (.int .i64 g.val.n):=by rw [cell_of_row _ _ _ _ _ _ hrow];rfl
     clear hB2 hrow q0 q1 q2 q3 q4 q5
     by_cases h0:kv=0
     ·have t0 : (kv != 0) = false := by rw [h0]; rfl
      have HF2:Hid (F=firstE s ((if g.size.kind=0/\g.size.n=0 then segArgs (x.segs.drop (k+1))else g.size::segArgs (x.segs.drop (k+1)))++regsV (argsV u x).toNat)):=Lib.hid (by
       rw [HFk.out,HGD.out,List.cons_append,firstE_good (by rw [HKV.out];exact h0)])
      clear h0 HFk HGD
      go_wp2_with fail
      refine(HCV.out _ HB2.out).mono ?_
      rintro e w1 ⟨rfl,hb1⟩
      have hr1:=(hb1.block X (lt_of_row HROW.out)).trans HROW.out
      have HB3:=Lib.hid (HB2.out.trans (hb1.mono HB2.out.size))
      have y3:w1.cell? ⟨X,3,none⟩=some (.int .i64 g.size.kind):=by rw [cell_of_row _ _ _ _ _ _ hr1];rfl
      have y4:w1.cell? ⟨X,4,none⟩=some (.int .i64 g.size.n):=by rw [cell_of_row _ _ _ _ _ _ hr1];rfl
      clear hb1 hr1
      go_upto_region 14 with fail
      by_cases d:g.size.kind=0/\g.size.n=0
      ·have t1:(g.size.kind==0)=true:=beq_iff_eq.2 d.1
       have t2:(g.size.n==0)=true:=beq_iff_eq.2 d.2
       have HF3:Hid (F=firstE s (segArgs (x.segs.drop (k+1))++regsV (argsV u x).toNat)):=Lib.hid (by rw [HF2.out,if_pos d])
       clear d HF2 HKS HKV HBO HCS HCV
       generalize g.size.kind=sk at *
       generalize g.size.n=sn at *
       go_wp2_with fail
       exact⟨⟨k+1,hlt,by go_num,HF3,HB3⟩,by simp [intOf];omega⟩
      ·have HCS2:=Lib.hid (HCS.out (HBO.out d))
       by_cases d1:g.size.kind=0
       ·have t1:(g.size.kind==0)=true:=beq_iff_eq.2 d1
        have t2:(g.size.n==0)=false:=beq_eq_false_iff_ne.2 fun h=>d ⟨d1,h⟩
        clear d1
        by_cases h1:ks=0
        ·have t3 : (ks != 0) = false := by rw [h1]; rfl
         have HF4:Hid (F=firstE s (segArgs (x.segs.drop (k+1))++regsV (argsV u x).toNat)):=Lib.hid (by
          rw [HF2.out,if_neg d,List.cons_append,firstE_good (by rw [HKS.out];exact h1)])
         clear h1 d HF2 HKS HKV HBO HCS HCV HK HA
         generalize hsk:g.size.kind=sk at *
         generalize hsn:g.size.n=sn at *
         clear hsk hsn
         go_wp2_with fail
         refine(HCS2.out _ HB3.out).mono ?_
         rintro e w2 ⟨rfl,hb2⟩
         have HB4:=Lib.hid (HB3.out.trans (hb2.mono HB3.out.size))
         clear hb2
         go_wp2_with fail
         exact⟨⟨k+1,hlt,by go_num,HF4,HB4⟩,by simp [intOf];omega⟩
        ·have t3 : (ks != 0) = true := by simpa using h1
         have HF4:Hid (R=ks):=Lib.hid (by
          have e:F=ks:=by rw [HF2.out,if_neg d,List.cons_append,firstE_bad (by rw [HKS.out];exact h1),HKS.out]
          rw [HR.out,e,if_pos h1])
         clear h1 d HF2 HKS HKV HBO HCS HCV HK HA
         generalize hsk:g.size.kind=sk at *
         generalize hsn:g.size.n=sn at *
         clear hsk hsn
         go_wp2_with fail
         refine(HCS2.out _ HB3.out).mono ?_
         rintro e w2 ⟨rfl,hb2⟩
         have HB4:=Lib.hid (HB3.out.trans (hb2.mono HB3.out.size))
         clear hb2
         go_wp2_with fail
         go_ret
         exact⟨ret_i HF4.out.symm,HB4.out⟩
       ·have t1:(g.size.kind==0)=false:=beq_eq_false_iff_ne.2 d1
        clear d1
        by_cases h1:ks=0
        ·have t3 : (ks != 0) = false := by rw [h1]; rfl
         have HF4:Hid (F=firstE s (segArgs (x.segs.drop (k+1))++regsV (argsV u x).toNat)):=Lib.hid (by
          rw [HF2.out,if_neg d,List.cons_append,firstE_good (by rw [HKS.out];exact h1)])
         clear h1 d HF2 HKS HKV HBO HCS HCV HK HA
         generalize hsk:g.size.kind=sk at *
         generalize hsn:g.size.n=sn at *
         clear hsk hsn
         go_wp2_with fail
         refine(HCS2.out _ HB3.out).mono ?_
         rintro e w2 ⟨rfl,hb2⟩
         have HB4:=Lib.hid (HB3.out.trans (hb2.mono HB3.out.size))
         clear hb2
         go_wp2_with fail
         exact⟨⟨k+1,hlt,by go_num,HF4,HB4⟩,by simp [intOf];omega⟩
        ·have t3 : (ks != 0) = true := by simpa using h1
         have HF4:Hid (R=ks):=Lib.hid (by
          have e:F=ks:=by rw [HF2.out,if_neg d,List.cons_append,firstE_bad (by rw [HKS.out];exact h1),HKS.out]
          rw [HR.out,e,if_pos h1])
         clear h1 d HF2 HKS HKV HBO HCS HCV HK HA
         generalize hsk:g.size.kind=sk at *
         generalize hsn:g.size.n=sn at *
         clear hsk hsn
         go_wp2_with fail
         refine(HCS2.out _ HB3.out).mono ?_
         rintro e w2 ⟨rfl,hb2⟩
         have HB4:=Lib.hid (HB3.out.trans (hb2.mono HB3.out.size))
         clear hb2
         go_wp2_with fail
         go_ret
         exact⟨ret_i HF4.out.symm,HB4.out⟩
     ·have t0 : (kv != 0) = true := by simpa using h0
      have HF2:Hid (R=kv):=Lib.hid (by
       have e:F=kv:=by rw [HFk.out,HGD.out,List.cons_append,firstE_bad (by rw [HKV.out];exact h0),HKV.out]
       rw [HR.out,e,if_pos h0])
      clear h0
      go_wp2_with fail
      refine(HCV.out _ HB2.out).mono ?_
      rintro e w1 ⟨rfl,hb1⟩
      have HB3:=Lib.hid (HB2.out.trans (hb1.mono HB2.out.size))
      clear hb1
      go_wp2_with fail
      go_ret
      exact⟨ret_i HF2.out.symm,HB3.out⟩
    ·obtain rfl:k=x.segs.length:=by omega
     obtain⟨N,hN⟩: ∃N:Nat,argsV u x=(N:Int):=Int.eq_ofNat_of_zero_le HA.out.num.1
     have hN2:N<=1000:=by have:=HA.out.num.2;omega
     have HF2:Hid (F=firstE s (regsV N)):=Lib.hid (by rw [HFk.out,List.drop_eq_nil_of_le (Nat.le_refl _),hN];rfl)
     have harg:=varguments_any E U mb b o at' u lo fo go co lc fc gc cc mc x so co' _ sc cc' gc' wx (HX.out.below HB.out) (HI.out.below HB.out) HA.out.args
     rw [hN]at harg
     have HARG:=Lib.hid harg
     clear harg hN HFk HF1
     go_wp2_with fail
     refine HARG.out.mono ?_
     rintro e w1 ⟨rfl,nq,rfl⟩
     have HB2:Hid (Below w.heap.size w (wx.drewN nq)):=Lib.hid (below_drewN HB.out nq)
     generalize wx.drewN nq=wy at *
     go_wp2_with fail
     go_loopw [77] (fun iv wz=> ∃k:Nat,k<=N/\iv= .int .i64 k/\Hid (F=firstE s ((regsV N).drop k))/\Hid (Below w.heap.size w wz)) (fun iv _=>N-(intOf iv).toNat)
     case atStart=>exact⟨0,Nat.zero_le _,rfl,Lib.hid (by rw [List.drop_zero];exact HF2.out),HB2⟩
     case round=>
      obtain⟨k,hk,rfl,HFk,HB3⟩:=hrel
      rename World=>wz
      by_cases hlt:k<N
      ·have hgd:=regs_drop N hlt
       have hlx:=ho.len.x
       have hreg:=vregister_any p s (k:Int) wz (HS.out.below HB3.out) ⟨by omega,by omega⟩ (by omega)
       have hke:kindE s ⟨1,(k:Int)⟩=if typT s.x (k:Int)=0 then 186 else 0:=by unfold kindE;rw [if_pos rfl]
       refine zzK3 hreg hgd hke fun HREG HGD HKE=>?_
       clear hreg hgd hke
       generalize typT s.x (k:Int)=ty at *
       by_cases h0:ty=0
       ·have t0:(ty==0)=true:=beq_iff_eq.2 h0
        have HR2:Hid (R=186):=Lib.hid (by
         have hk1:kindE s ⟨1,(k:Int)⟩=186:=by rw [HKE.out,if_pos h0]
         have e:F=186:=by rw [HFk.out,HGD.out,firstE_bad (by rw [hk1];decide),hk1]
         rw [HR.out,e,if_pos (by decide)])
        clear h0
        go_wp2_with fail
        refine HREG.out.mono ?_
        rintro e w1 ⟨rfl,rfl⟩
        go_wp2_with fail
        go_ret
        exact⟨ret_i HR2.out.symm,HB3.out⟩
       ·have t0:(ty==0)=false:=beq_eq_false_iff_ne.2 h0
        have HF4:Hid (F=firstE s ((regsV N).drop (k+1))):=Lib.hid (by
         rw [HFk.out,HGD.out,firstE_good (by rw [HKE.out,if_neg h0])])
        clear h0
        go_wp2_with fail
        refine HREG.out.mono ?_
        rintro e w1 ⟨rfl,rfl⟩
        go_wp2_with fail
        exact⟨⟨k+1,hlt,by go_num,HF4,HB3⟩,by simp [intOf];omega⟩
      ·obtain rfl:k=N:=by omega
       have HF3:Hid (F=0):=Lib.hid (by
        rw [HFk.out,List.drop_eq_nil_of_le (by unfold regsV;simp)];rfl)
       have HRF:Hid (R=if x.dst.kind=2/\s.frame<=x.dst.n then 181 else 0):=Lib.hid (by rw [HR.out,HF3.out,if_neg (by simp)])
       have jb:=HI.out.below HB3.out
       have j1:=jb.c1;have j2:=jb.c2
       obtain⟨xo,xc,yo,yc,to',tc,c0,c1,c2,c3,c4,c5,c6,hL⟩:=(HS.out.below HB3.out).cells
       clear jb c1 c2 c3 c4 c5 c6 hL HFk HF2 HR
       generalize hdk:x.dst.kind=dk at *
       generalize hdn:x.dst.n=dn at *
       generalize hfr:s.frame=fr at *
       clear hdk hdn hfr
       by_cases d1:dk=2
       ·have t1:(dk==2)=true:=beq_iff_eq.2 d1
        by_cases d2:fr<=dn
        ·have t2:decide (fr<=dn)=true:=decide_eq_true d2
         have HR2:Hid ((181:Int)=R):=Lib.hid (by rw [HRF.out,if_pos ⟨d1,d2⟩])
         clear d1 d2
         clear HRF HK HA HF3
         go_wp2_with fail
         go_quiet ((go_at_call 129;exact Calls.quiet_of_same (when_any _ _ _)))
         go_wp2_with fail
         go_ret
         exact⟨ret_i HR2.out,below_drewN HB3.out _⟩
        ·have t2:decide (fr<=dn)=false:=decide_eq_false d2
         have HR2:Hid ((0:Int)=R):=Lib.hid (by rw [HRF.out,if_neg (fun g=>d2 g.2)])
         clear d1 d2
         clear HRF HK HA HF3
         go_wp2_with fail
         go_quiet ((go_at_call 129;exact Calls.quiet_of_same (when_any _ _ _)))
         go_wp2_with fail
         go_ret
         exact⟨ret_i HR2.out,below_drewN HB3.out _⟩
       ·have t1:(dk==2)=false:=beq_eq_false_iff_ne.2 d1
        have HR2:Hid ((0:Int)=R):=Lib.hid (by rw [HRF.out,if_neg (fun g=>d1 g.1)])
        clear d1
        clear HRF HK HA HF3
        go_wp2_with fail
        go_quiet ((go_at_call 129;exact Calls.quiet_of_same (when_any _ _ _)))
        go_wp2_with fail
        go_ret
        exact⟨ret_i HR2.out,below_drewN HB3.out _⟩
theorem bytes_toList (s:ByteArray):s.toList=s.data.toList:=by rw [ByteArray.toList_eq]
theorem vresult_any (E U mb p b o:Nat) (at':Int) (u:RUnit) (lo fo go co:zzA) (lc fc gc cc mc:Nat) (x:RIns) (s:VSt) (so co' go':zzA) (sc cc' gc':Nat) (w:World) (hx:VCx w E U mb at' u lo fo go co lc fc gc cc mc) (hi:IBox w b o x so co' go' sc cc' gc') (hs:StAt w p s) (ho:StOk s) (hl:LitsLen u)
  (hsrc:x.op=1->0<x.src.length/\ArgOk u s (src0 x)) (hsl:x.src.length<=1000):
  Calls Tryz.prog 174 #[.pointer (some ⟨E,0,none⟩),.pointer (some ⟨p,0,none⟩),.pointer (some ⟨b,o,none⟩)] w fun e w'=>e= .returned (.int .i64 (resultV u s x))/\Below w.heap.size w w':=by
 have i0:=hi.c0;have i3:=hi.c3;have i7:=hi.c7
 have HR:Hid (resultV u s x=if x.op=1 then kindT u s (src0 x)else if x.op=2\/x.op=13/\x.name.data.toList= [123,125]then 3+(x.src.length:Int)else if x.op=3\/x.op=13/\x.name.data.toList= [124]then 2 else 1):=Lib.hid rfl
 generalize resultV u s x=R at *
 by_cases h1:x.op=1
 ·obtain⟨hl0,hao⟩:=hsrc h1
  obtain⟨sb,off,rfl,hsb,q0,q1,-,-⟩:=hi.src.arg hl0
  have hsrc0:src0 x=x.src[0]:=by
   unfold src0
   rw [List.headD_eq_head?_getD,List.head?_eq_getElem?,List.getElem?_eq_getElem hl0];rfl
  have hkind:=vkind_any E U mb p at' u lo fo go co lc fc gc cc mc s (src0 x) w hx hs ho hao hl
  rw [<-hsrc0]at q0 q1
  simp only [Nat.zero_mul,Nat.add_zero]at q0 q1
  have HR2:Hid (R=kindT u s (src0 x)):=Lib.hid (by rw [HR.out,if_pos h1])
  have HK:=Lib.hid hkind
  clear hkind hi hsrc hao hsrc0 hx hs HR i7
  generalize kindT u s (src0 x)=kt at *
  generalize src0 x=a at *
  have hI1:(0:Int)<(x.src.length:Int):=by omega
  generalize x.src.length=sl at *
  rw [h1]at i0
  clear h1
  go_in
  go_wp2_with fail
  refine HK.out.mono ?_
  rintro e w1 ⟨rfl,hb1⟩
  go_wp2_with fail
  go_ret
  exact⟨ret_i HR2.out.symm,hb1⟩
 ·have t1:(x.op==1)=false:=beq_eq_false_iff_ne.2 h1
  have hw:IntKind.i64.wrap (3+(x.src.length:Int))=3+(x.src.length:Int):=by rw [IntKind.wrap_i64];omega
  clear hi hsrc hx hs hsl
  generalize x.src.length=sl at *
  generalize x.op=op at *
  generalize x.name=nm at *
  by_cases h2:op=2
  ·have t2:(op==2)=true:=beq_iff_eq.2 h2
   have HR2:Hid (R=3+(sl:Int)):=Lib.hid (by rw [HR.out,if_neg h1,if_pos (.inl h2)])
   clear HR h1 h2
   go_in
   go_wp2_with fail
   go_ret
   exact⟨ret_i HR2.out.symm,Below.refl _ _⟩
  ·have t2:(op==2)=false:=beq_eq_false_iff_ne.2 h2
   by_cases h3:op=3
   ·have t3:(op==3)=true:=beq_iff_eq.2 h3
    have t13:(op==13)=false:=by rw [beq_eq_false_iff_ne];omega
    have HR2:Hid (R=2):=Lib.hid (by rw [HR.out,if_neg h1,if_neg (by omega),if_pos (.inl h3)])
    clear HR h1 h2 h3
    go_in
    go_wp2_with fail
    go_ret
    exact⟨ret_i HR2.out.symm,Below.refl _ _⟩
   ·have t3:(op==3)=false:=beq_eq_false_iff_ne.2 h3
    by_cases h13:op=13
    ·have t13:(op==13)=true:=beq_iff_eq.2 h13
     by_cases n1:nm.data.toList= [123,125]
     ·have m1:(nm.toList== [123,125])=true:=by rw [bytes_toList,n1];rfl
      have HR2:Hid (R=3+(sl:Int)):=Lib.hid (by rw [HR.out,if_neg h1,if_pos (.inr ⟨h13,n1⟩)])
      clear HR h1 h2 h3 h13 n1
      go_in
      go_wp2_with fail
      go_ret
      exact⟨ret_i HR2.out.symm,Below.refl _ _⟩
     ·have m1:(nm.toList== [123,125])=false:=by rw [bytes_toList,beq_eq_false_iff_ne];exact n1
      by_cases n2:nm.data.toList= [124]
      ·have m2:(nm.toList== [124])=true:=by rw [bytes_toList,n2];rfl
       have HR2:Hid (R=2):=Lib.hid (by rw [HR.out,if_neg h1,if_neg (fun g=>g.elim h2 fun g=>n1 g.2),if_pos (.inr ⟨h13,n2⟩)])
       clear HR h1 h2 h3 h13 n1 n2
       go_in
       go_wp2_with fail
       go_ret
       exact⟨ret_i HR2.out.symm,Below.refl _ _⟩
      ·have m2:(nm.toList== [124])=false:=by rw [bytes_toList,beq_eq_false_iff_ne];exact n2
       have HR2:Hid (R=1):=Lib.hid (by rw [HR.out,if_neg h1,if_neg (fun g=>g.elim h2 fun g=>n1 g.2),if_neg (fun g=>g.elim h3 fun g=>n2 g.2)])
       clear HR h1 h2 h3 h13 n1 n2
       go_in
       go_wp2_with fail
       go_ret
       exact⟨ret_i HR2.out.symm,Below.refl _ _⟩
    ·have t13:(op==13)=false:=beq_eq_false_iff_ne.2 h13
     have HR2:Hid (R=1):=Lib.hid (by rw [HR.out,if_neg h1,if_neg (fun g=>g.elim h2 fun g=>h13 g.1),if_neg (fun g=>g.elim h3 fun g=>h13 g.1)])
     clear HR h1 h2 h3 h13
     go_in
     go_wp2_with fail
     go_ret
     exact⟨ret_i HR2.out.symm,Below.refl _ _⟩
end Go.Proofs.YtponljdhfoipjaaGreatDoor
