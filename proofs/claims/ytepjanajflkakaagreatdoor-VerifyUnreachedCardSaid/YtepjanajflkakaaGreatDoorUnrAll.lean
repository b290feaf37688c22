/- the law -/
import Derived.Test.YtepjanajflkakaaGreatDoorCards
import Derived.Test.YtepjanajflkakaaGreatDoorTie
import Derived.Deep.DeepHandedRow
import Derived.Deep.DeepLaidRun
import Derived.Deep.DeepWitnessRowRef
import Derived.ProofKit
import Derived.OpenShut
import Derived.ShutString
import Derived.Test.YtepjanajflkakaaGreatDoorUnrAll16
namespace Go.Proofs.YtepjanajflkakaaGreatDoor
open Go.RowKit
set_option linter.unusedVariables false
set_option linter.unusedSimpArgs false
set_option maxRecDepth 100000
set_option maxHeartbeats 40000000
def CsAt (w:World) (b:Nat) (s:VSt):Prop:= ∃xo xc yo yc to' tc,w.heap[b]?=some (.cells (stRow s xo xc yo yc to' tc) 40 (0,0))/\StLs w s xo xc yo yc to' tc
theorem StLs.below {w w':World} {s:VSt} {xo yo to':Option Addr} {xc yc tc:Nat} (h:StLs w s xo xc yo yc to' tc) (k:Below w.heap.size w w'):StLs w' s xo xc yo yc to' tc:=h.keep (.below k)
theorem CsAt.below {w w':World} {b:Nat} {s:VSt} (h:CsAt w b s) (k:Below w.heap.size w w'):CsAt w' b s:=by
 obtain⟨xo,xc,yo,yc,to',tc,hr,hl⟩:=h
 exact⟨xo,xc,yo,yc,to',tc,(k.block b (lt_of_row hr)).trans hr,hl.below k⟩
theorem CsAt.setFar {w:World} {b Y i:Nat} {s:VSt} {v:Value} {cs:Array Value} {fr:Nat × Nat} (h:CsAt w b s) (hY:w.heap[Y]?=some (.cells cs 36 fr)):CsAt (w.setCell ⟨Y,i,none⟩ v) b s:=by
 obtain⟨xo,xc,yo,yc,to',tc,hr,hl⟩:=h
 exact⟨xo,xc,yo,yc,to',tc,row_setFar hr hY (by decide),⟨hl.x.setFar hY (by decide),hl.y.setFar hY (by decide),hl.t.setFar hY (by decide),hl.xl,hl.yl,hl.tl⟩⟩
def OutOne (w:World) (pv:Value):Option VM->Prop
 |none=>pv= .pointer none
 |some m=> ∃b,pv= .pointer (some ⟨b,0,none⟩)/\CsAt w b m.st
def OutAt (w:World) (ob n i:Nat) (M:Nat->Option VM):Prop:=
 ∃cs,w.heap[ob]?=some (.cells cs 36 (0,0))/\cs.size=n/\ ∀k,k<n-> ∃pv,cs[k]?=some pv/\(k<i->OutOne w pv (M k))/\(i<=k->pv= .pointer none)
theorem OutOne.below {w w':World} {pv:Value} {mo:Option VM} (h:OutOne w pv mo) (k:Below w.heap.size w w'):OutOne w' pv mo:=by
 cases mo with
 |none=>exact h
 |some m=>obtain⟨b,e,h⟩:=h;exact⟨b,e,h.below k⟩
theorem OutAt.below {w w':World} {ob n i:Nat} {M:Nat->Option VM} (h:OutAt w ob n i M) (k:Below w.heap.size w w'):OutAt w' ob n i M:=by
 obtain⟨cs,hr,hs,ha⟩:=h
 exact⟨cs,(k.block ob (lt_of_row hr)).trans hr,hs,fun j hj=>by
  obtain⟨pv,e,h1,h2⟩:=ha j hj
  exact⟨pv,e,fun h=>(h1 h).below k,h2⟩⟩
theorem OutAt.skip {w:World} {ob n i:Nat} {M:Nat->Option VM} (h:OutAt w ob n i M) (hM:M i=none):OutAt w ob n (i+1) M:=by
 obtain⟨cs,hr,hs,ha⟩:=h
 refine⟨cs,hr,hs,fun j hj=>?_⟩
 obtain⟨pv,e,h1,h2⟩:=ha j hj
 refine⟨pv,e,fun h=>?_,fun h=>h2 (by omega)⟩
 by_cases hji:j<i
 ·exact h1 hji
 ·obtain rfl:j=i:=by omega
  rw [hM]
  exact h2 (by omega)
theorem OutAt.add {w:World} {ob n i b:Nat} {M:Nat->Option VM} {m:VM} (h:OutAt w ob n i M) (hi:i<n) (hM:M i=some m) (hc:CsAt w b m.st):OutAt (w.setCell ⟨ob,i,none⟩ (.pointer (some ⟨b,0,none⟩))) ob n (i+1) M:=by
 obtain⟨cs,hr,hs,ha⟩:=h
 refine⟨_,heap_setCell_same _ ob i _ _ _ hr,by simp [hs],fun j hj=>?_⟩
 obtain⟨pv,e,h1,h2⟩:=ha j hj
 by_cases hji:j=i
 ·subst hji
  refine⟨.pointer (some ⟨b,0,none⟩),by simp [hs,hj],fun _=>?_,fun h=>absurd h (by omega)⟩
  rw [hM]
  exact⟨b,rfl,hc.setFar hr⟩
 ·refine⟨pv,by rw [Array.getElem?_setIfInBounds_ne (fun h=>hji h.symm)];exact e,fun h=>?_,fun h=>h2 (by omega)⟩
  have:=h1 (by omega)
  cases hMj:M j with
  |none=>rw [hMj]at this;exact this
  |some mj=>rw [hMj]at this;obtain⟨bj,ej,hj2⟩:=this;exact⟨bj,ej,hj2.setFar hr⟩
theorem OutAt.cell {w:World} {ob n i k:Nat} {M:Nat->Option VM} (h:OutAt w ob n i M) (hi:i<=k) (hk:k<n):w.cell? ⟨ob,k,none⟩=some (.pointer none)/\w.frozen? ⟨ob,k,none⟩=false:=by
 obtain⟨cs,hr,hs,ha⟩:=h
 obtain⟨pv,e,h1,h2⟩:=ha k hk
 exact⟨by rw [cell_of_row _ _ _ _ _ _ hr,e,h2 hi],frozen_of_row _ _ _ _ _ hr⟩
theorem OutAt.lt {w:World} {ob n i:Nat} {M:Nat->Option VM} (h:OutAt w ob n i M):ob<w.heap.size:=by
 obtain⟨cs,hr,-⟩:=h;exact lt_of_row hr
theorem infoOut:(Tryz.prog.info? 36).map (fun i=>(i.zero,i.size,i.bytes))=some (some (.pointer none),1,8):=by kernel_rfl
theorem mkOuts (n:Nat) (hn:n<=1000000): ∃arr:Array Value,arr.size=n/\(∀k,k<n->arr[k]?=some (.pointer none)) /\
  ∀wx:World,(Instr.makeSlice 33 (.int .i64 (n:Int)) (.int .i64 (n:Int))).run Tryz.prog wx= .ok (.slice (some ⟨wx.heap.size,0,none⟩) n n) (wx.alloc (.cells arr 36)):=by
 obtain⟨i0,hi,hz0,hz1,hz2⟩:=info_parts infoOut
 refine⟨madeCells (Value.pointer none).cells (n*i0.size),by rw [size_madeCells,hz1,Nat.mul_one],fun k hk=>?_,fun wx=>?_⟩
 ·rw [hz1,Nat.mul_one]
  have h3:(Value.pointer none).cells=#[.pointer none]:=by rfl
  rw [h3]
  unfold madeCells
  rw [Array.getElem?_map,Array.getElem?_range,if_pos (by omega)]
  simp [Nat.mod_one]
 ·have:=run_make (P:=Tryz.prog) wx 33 36 i0 _ Tryz.underlying33 hi hz0 .i64 .i64 n n (by omega) (Int.le_refl _) (by rw [hz2];omega) (by omega)
  simpa only [Int.toNat_natCast] using this
theorem out_start {w:World} {ob n:Nat} {arr:Array Value} (hr:w.heap[ob]?=some (.cells arr 36 (0,0))) (hs:arr.size=n) (ha: ∀k,k<n->arr[k]?=some (.pointer none)) (M:Nat->Option VM):OutAt w ob n 0 M:=
 ⟨arr,hr,hs,fun k hk=>⟨_,ha k hk,fun h=>absurd h (Nat.not_lt_zero _),fun _=>rfl⟩⟩
abbrev S7 (b:Nat) (s:VSt) (xo:Option Addr) (xc:Nat) (yo:Option Addr) (yc:Nat) (to':Option Addr) (tc:Nat) (w:World):Prop:=
 w.cell? ⟨b,0,none⟩=some (.int .i64 s.frame)/\w.cell? ⟨b,1,none⟩=some (.slice xo s.x.length xc)/\w.cell? ⟨b,2,none⟩=some (.slice yo s.y.length yc)/\w.cell? ⟨b,3,none⟩=some (.slice to' s.tries.length tc)/\w.cell? ⟨b,4,none⟩=some (.bool s.mt)/\w.cell? ⟨b,5,none⟩=some (.int .i64 s.recv)/\w.cell? ⟨b,6,none⟩=some (.int .i64 s.frm)
abbrev nrow (s:VSt) (a1:Option Addr) (c1:Nat) (a2:Option Addr) (c2:Nat) (a3:Option Addr) (c3:Nat):Obj:=
 .cells #[.int .i64 s.frame,.slice a1 s.x.length c1,.slice a2 s.y.length c2,.slice a3 s.tries.length c3,.bool s.mt,.int .i64 s.recv,.int .i64 s.frm] 40
def statesE (f:Nat) (u:RUnit):Int:=if checkE f u≠0 then checkE f u else(examMV u).1.2
def StatesQ (f:Nat) (u:RUnit) (w:World) (e:Ending) (w':World):Prop:=
 ∃oo ol oc,e= .returned (.tuple #[.slice oo ol oc,.int .i64 (statesE f u)])/\(statesE f u≠0->oo=none/\ol=0/\oc=0) /\
  (statesE f u=0-> ∃ob,oo=some ⟨ob,0,none⟩/\ol=u.code.length/\w.heap.size<=ob/\OutAt w' ob u.code.length u.code.length (examMV u).2/\ ∀k m,(examMV u).2 k=some m->VLen m.st)
theorem vstates_any (f:Nat) (u:RUnit) (lo fo go co:Option Addr) (lc fc gc cc:Nat) (w:World) (h:ChkAt w f u lo fo go co):
  Calls Tryz.prog 13 #[.agg #[.string u.mdl,.int .i64 u.vsn,.slice lo u.lits.length lc,.slice fo u.funcs.length fc,.slice go u.funs.length gc,.slice co u.code.length cc]] w fun e w'=>StatesQ (f+1) u w e w'/\Below w.heap.size w w':=by
 have hbx:=ubox_new w u lo fo go co lc fc gc cc
 have hba:Below w.heap.size w (w.alloc (.cells #[.string u.mdl,.int .i64 u.vsn,.slice lo u.lits.length lc,.slice fo u.funcs.length fc,.slice go u.funs.length gc,.slice co u.code.length cc] 27)):=(Below.refl _ _).alloc (Nat.le_refl _) _
 have hc:=h.below hba
 have HQ:Hid (∀e w',(∃oo ol oc,e= .returned (.tuple #[.slice oo ol oc,.int .i64 (statesE (f+1) u)])/\(statesE (f+1) u≠0->oo=none/\ol=0/\oc=0) /\
  (statesE (f+1) u=0-> ∃ob,oo=some ⟨ob,0,none⟩/\ol=u.code.length/\w.heap.size<=ob/\OutAt w' ob u.code.length u.code.length (examMV u).2/\ ∀k m,(examMV u).2 k=some m->VLen m.st))/\Below w.heap.size w w'->StatesQ (f+1) u w e w'/\Below w.heap.size w w'):=Lib.hid (fun e w' h=>h)
 obtain⟨V,hV⟩: ∃V,V=statesE (f+1) u:=⟨_,rfl⟩
 rw [<-hV]at HQ
 have HV:=Lib.hid hV
 clear hV h
 go_in
 go_upto_region 1 with fail
 generalize w.alloc (.cells #[.string u.mdl,.int .i64 u.vsn,.slice lo u.lits.length lc,.slice fo u.funcs.length fc,.slice go u.funs.length gc,.slice co u.code.length cc] 27)=W at *
 generalize hB:w.heap.size=B at *
 have HBA:=Lib.hid hba;have HBX:=Lib.hid hbx;have HC:=Lib.hid hc
 have c0:=hbx.c0;have c1:=hbx.c1;have c2:=hbx.c2;have c3:=hbx.c3;have c4:=hbx.c4;have c5:=hbx.c5
 have HCK:=Lib.hid (check_any f u lo fo go co lc fc gc cc W hc.rows hc.sp hc.up hc.lits hc.cap hc.nm)
 clear hba hbx hc
 obtain⟨ce,hce⟩: ∃ce,ce=checkE (f+1) u:=⟨_,rfl⟩
 obtain⟨ci,hci⟩: ∃ci,ci=checkI (f+1) u:=⟨_,rfl⟩
 rw [<-hce,<-hci]at HCK
 have HCE:=Lib.hid hce
 clear hce hci
 go_wp2_with fail
 refine HCK.out.mono ?_
 rintro e w1 ⟨rfl,hb1⟩
 have HB1:=Lib.hid hb1
 clear hb1 HCK c0 c1 c2 c3 c4 c5
 have HFIN:Hid (∀wx,Below w1.heap.size w1 wx->Below B w wx):=Lib.hid (fun wx h=>(HBA.out.trans (HB1.out.mono (by rw [<-hB];rw [hB];exact HBA.out.size |> fun h=>by omega))).trans (h.mono (by have:=HB1.out.size;have:=HBA.out.size;omega)))
 by_cases h0:ce=0
 ·have hU:=unitV_of (f:=f+1) (u:=u) (by rw [<-HCE.out];exact h0)
  have hn1:=hU.n1;have hn2:=hU.n2
  have HEX:=Lib.hid (vexamine_any B u lo fo go co lc fc gc cc w1 (HBX.out.below HB1.out) (HC.out.up.below HB1.out) hU)
  have E1:Hid (V=(examMV u).1.2):=Lib.hid (by rw [HV.out];unfold statesE;rw [<-HCE.out,if_neg (fun h=>h h0)])
  obtain⟨n,hn⟩: ∃n,n=u.code.length:=⟨_,rfl⟩
  rw [<-hn]at hn1 hn2
  subst h0
  go_wp2_with fail
  refine HEX.out.mono ?_
  rintro e w2 ⟨⟨pv,rfl,hx1,hx2⟩,hb2⟩
  rw [<-E1.out]at hx1 hx2 ⊢
  have HB2:=Lib.hid hb2
  obtain⟨xi,hxi⟩: ∃xi,xi=(examMV u).1.1:=⟨_,rfl⟩
  rw [<-hxi]
  clear hb2 HEX hxi
  by_cases hV0:V=0
  ·obtain⟨X,mb,mc,a,rfl,hX,hM⟩:=hx2 hV0
   have b5:=((HBX.out.below HB1.out).below HB2.out).c5
   rw [<-hn]at hX hM HQ b5
   have HVZ:=Lib.hid hV0
   clear hx1 hx2 E1
   obtain⟨arr,hs,hz,hmk⟩:=mkOuts n (by omega)
   have hmkw:=hmk w2
   have e1:=cellOf hX (k:=1) (by simp)
   simp only [List.getElem_toArray,List.getElem_cons_zero,List.getElem_cons_succ]at e1
   have hor:=heap_alloc_new w2 (.cells arr 36)
   have hob:=(Below.refl w2.heap.size w2).alloc (Nat.le_refl _) (.cells arr 36)
   have HO:Hid (OutAt (w2.alloc (.cells arr 36)) w2.heap.size n 0 (examMV u).2):=Lib.hid (out_start hor hs hz _)
   have e1':(w2.alloc (.cells arr 36)).cell? ⟨X,1,none⟩=some (.slice (some ⟨mb,0,none⟩) n mc):=(hob.cell (p:=⟨X,1,none⟩) (lt_of_row hX)).trans e1
   have HHM:=Lib.hid hM;have HHX:=Lib.hid hX;have HOB:=Lib.hid hob;have HMK:=Lib.hid hmk;have HN:=Lib.hid hn
   generalize(examMV u).2=M at *
   subst hV0
   clear hs hz hmk hX hM hob hor e1 hn
   go_upto_region 8 with fail
   generalize w2.alloc (.cells arr 36)=W8 at *
   generalize hOB:w2.heap.size=ob at *
   clear hmkw b5
   go_wp2_with fail
   go_loopw [34] (fun iv wr=> ∃k:Nat,k<=n/\iv= .int .i64 k/\Hid (OutAt wr ob n k M)/\Hid (Below ob w2 wr)) (fun iv _=>n-(intOf iv).toNat)
   case atStart=>exact⟨0,Nat.zero_le _,rfl,HO,HOB⟩
   case round=>
    obtain⟨k,hk,rfl,HOK,HBK⟩:=hrel
    rename World=>wr
    by_cases hlt:k<n
    ·skip
     obtain⟨⟨csi,gi,hmi⟩,hai⟩:=HHM.out
     obtain⟨pv,av,wv,f0,f1,f2,h1⟩:=hmi.one k hlt
     have c0:w2.cell? ⟨mb,k*3,none⟩=some pv:=by rw [cell_of_row _ _ _ _ _ _ hmi.row];exact f0
     have hmb:mb<ob:=by rw [<-hOB];exact lt_of_row hmi.row
     have hXb:X<ob:=by rw [<-hOB];exact lt_of_row HHX.out
     have c0r:wr.cell? ⟨mb,k*3,none⟩=some pv:=(HBK.out.cell (p:=⟨mb,k*3,none⟩) hmb).trans c0
     have e1:wr.cell? ⟨X,1,none⟩=some (.slice (some ⟨mb,0,none⟩) n mc):=by
      rw [HBK.out.cell (p:=⟨X,1,none⟩) hXb,cell_of_row _ _ _ _ _ _ HHX.out]
      have:=HN.out
      simp [this]
     have hk0:(0:Int)<=(k:Int):=by omega
     have hk1:(k:Int)<(n:Int):=by omega
     clear f0 f1 f2 c0 hmi
     cases hMk:M k with
     |none=>
      rw [hMk]at h1
      obtain⟨rfl,rfl,rfl⟩:=h1
      have HSK:=Lib.hid (HOK.out.skip hMk)
      clear hMk hai
      go_wp2_with fail
      refine⟨⟨k+1,hlt,by go_num,HSK,HBK⟩,by simp [intOf];omega⟩
     |some m=>
      rw [hMk]at h1
      obtain⟨⟨b,rfl,hsb⟩,rfl,-⟩:=h1
      have him:=hai k m hMk
      unfold ptrV at c0r
      have hlen:=(him.st.ok (by omega)).len
      have hbb:b<ob:=by rw [<-hOB];exact hsb.lt
      have hst:=hsb.below (by rw [hOB];exact HBK.out:Below w2.heap.size w2 wr)
      obtain⟨xo,xc,yo,yc,to',tc,q0,q1,q2,q3,q4,q5,q6,hL⟩:=hst.cells
      obtain⟨d0,d1⟩:=HOK.out.cell (Nat.le_refl k) hlt
      have HADD:Hid (∀w' bb,OutAt w' ob n k M->CsAt w' bb m.st->OutAt (w'.setCell ⟨ob,k,none⟩ (.pointer (some ⟨bb,0,none⟩))) ob n (k+1) M):=Lib.hid (fun w' bb h h'=>h.add hlt hMk h')
      have HLL:=Lib.hid hL;have HLN:=Lib.hid hlen
      clear hMk hai him hsb hst hL hlen
      generalize m.st=s at *
      have hbw:b<wr.heap.size:=by have:=HBK.out.size;have:=hOB;have:=HOK.out.lt;omega
      have hS: ∀w',Below wr.heap.size wr w'->S7 b s xo xc yo yc to' tc w':=fun w' h=>⟨(h.cell (p:=⟨b,0,none⟩) hbw).trans q0,(h.cell (p:=⟨b,1,none⟩) hbw).trans q1,(h.cell (p:=⟨b,2,none⟩) hbw).trans q2,(h.cell (p:=⟨b,3,none⟩) hbw).trans q3,(h.cell (p:=⟨b,4,none⟩) hbw).trans q4,(h.cell (p:=⟨b,5,none⟩) hbw).trans q5,(h.cell (p:=⟨b,6,none⟩) hbw).trans q6⟩
      have KS:Hid (S7 b s xo xc yo yc to' tc wr.drew):=Lib.hid ⟨q0,q1,q2,q3,q4,q5,q6⟩
      have HCL:Hid (Calls Tryz.prog 36 #[.slice xo s.x.length xc] wr.drew fun e w5=> ∃a1 c1,e= .returned (.slice a1 s.x.length c1)/\Hid (S7 b s xo xc yo yc to' tc w5) /\
        Hid (Calls Tryz.prog 36 #[.slice yo s.y.length yc] w5 fun e w6=> ∃a2 c2,e= .returned (.slice a2 s.y.length c2)/\Hid (S7 b s xo xc yo yc to' tc w6) /\
        Hid (Calls Tryz.prog 36 #[.slice to' s.tries.length tc] w6 fun e w7=> ∃a3 c3,e= .returned (.slice a3 s.tries.length c3)/\Hid (S7 b s xo xc yo yc to' tc w7)/\Hid (S7 b s xo xc yo yc to' tc (w7.alloc (nrow s a1 c1 a2 c2 a3 c3)))/\Hid (S7 b s xo xc yo yc to' tc ((w7.alloc (nrow s a1 c1 a2 c2 a3 c3)).setCell ⟨ob,k,none⟩ (.pointer (some ⟨w7.heap.size,0,none⟩)))) /\
         (w7.alloc (nrow s a1 c1 a2 c2 a3 c3)).cell? ⟨ob,k,none⟩=some (.pointer none)/\(w7.alloc (nrow s a1 c1 a2 c2 a3 c3)).frozen? ⟨ob,k,none⟩=false/\Hid (OutAt ((w7.alloc (nrow s a1 c1 a2 c2 a3 c3)).setCell ⟨ob,k,none⟩ (.pointer (some ⟨w7.heap.size,0,none⟩))) ob n (k+1) M)/\Hid (Below ob w2 ((w7.alloc (nrow s a1 c1 a2 c2 a3 c3)).setCell ⟨ob,k,none⟩ (.pointer (some ⟨w7.heap.size,0,none⟩))))))):=Lib.hid (by
       have hd:Below wr.heap.size wr wr.drew:=(Below.refl _ _).drew
       refine(vclone_any s.x xo xc wr.drew (HLL.out.x.below hd) (Nat.le_trans HLN.out.x (by decide))).mono ?_
       rintro e w5 ⟨⟨v1,rfl,o1⟩,h5⟩
       obtain⟨a1,c1,rfl,i1,l1⟩:=o1.ints
       have h5':Below wr.heap.size wr w5:=hd.trans h5
       refine⟨a1,c1,rfl,Lib.hid (hS w5 h5'),Lib.hid ?_⟩
       refine(vclone_any s.y yo yc w5 (HLL.out.y.below h5') (Nat.le_trans HLN.out.y (by decide))).mono ?_
       rintro e w6 ⟨⟨v2,rfl,o2⟩,h6⟩
       obtain⟨a2,c2,rfl,i2,l2⟩:=o2.ints
       have h6':Below wr.heap.size wr w6:=h5'.trans (h6.mono h5'.size)
       refine⟨a2,c2,rfl,Lib.hid (hS w6 h6'),Lib.hid ?_⟩
       refine(vclone_any s.tries to' tc w6 (HLL.out.t.below h6') HLN.out.t).mono ?_
       rintro e w7 ⟨⟨v3,rfl,o3⟩,h7⟩
       obtain⟨a3,c3,rfl,i3,l3⟩:=o3.ints
       have h7':Below wr.heap.size wr w7:=h6'.trans (h7.mono h6'.size)
       have h8:Below w7.heap.size w7 (w7.alloc (nrow s a1 c1 a2 c2 a3 c3)):=(Below.refl _ _).alloc (Nat.le_refl _) _
       have h8':Below wr.heap.size wr (w7.alloc (nrow s a1 c1 a2 c2 a3 c3)):=h7'.trans (h8.mono h7'.size)
       have ho:=HOK.out.below h8'
       obtain⟨d0',d1'⟩:=ho.cell (Nat.le_refl k) hlt
       refine⟨a3,c3,rfl,Lib.hid (hS w7 h7'),Lib.hid (hS _ h8'),Lib.hid ?_,d0',d1',Lib.hid (HADD.out _ _ ho ?_),Lib.hid ((HBK.out.trans (h8'.mono (Nat.le_of_lt HOK.out.lt))).setCell (p:=⟨ob,k,none⟩) (Nat.le_refl _) _)⟩
       ·have hne:b≠ob:=by omega
        have h9:=hS _ h8'
        exact⟨(cell_far0 hne).trans h9.1,(cell_far0 hne).trans h9.2.1,(cell_far0 hne).trans h9.2.2.1,(cell_far0 hne).trans h9.2.2.2.1,(cell_far0 hne).trans h9.2.2.2.2.1,(cell_far0 hne).trans h9.2.2.2.2.2.1,(cell_far0 hne).trans h9.2.2.2.2.2.2⟩
       exact⟨a1,c1,a2,c2,a3,c3,heap_alloc_new _ _,((i1.below h6).below h7).below h8,(i2.below h7).below h8,i3.below h8,l1,l2,l3⟩)
      clear hS HLL HLN HADD d0 d1
      go_upto_region 13 with fail
      go_region_held3 (fun w'=>w'.cell? ⟨b,0,none⟩=some (.int .i64 s.frame)/\w'.cell? ⟨b,1,none⟩=some (.slice xo s.x.length xc)/\w'.cell? ⟨b,2,none⟩=some (.slice yo s.y.length yc)/\w'.cell? ⟨b,3,none⟩=some (.slice to' s.tries.length tc)/\w'.cell? ⟨b,4,none⟩=some (.bool s.mt)/\w'.cell? ⟨b,5,none⟩=some (.int .i64 s.recv)/\w'.cell? ⟨b,6,none⟩=some (.int .i64 s.frm)) (first|with_reducible exact KS.out|with_reducible exact K5.out|with_reducible exact K6.out|with_reducible exact K7.out|with_reducible exact K8.out|with_reducible exact K9.out)
       (first
        |(go_at_call 36;(with_reducible refine HC3.out.mono ?_);rintro e w7 ⟨a3,c3,rfl,K7,K8,K9,d0,d1,FO,FB⟩)
        |(go_at_call 36;(with_reducible refine HC2.out.mono ?_);rintro e w6 ⟨a2,c2,rfl,K6,HC3⟩)
        |(go_at_call 36;(with_reducible refine HCL.out.mono ?_);rintro e w5 ⟨a1,c1,rfl,K5,HC2⟩))
      all_goals
       go_wp2_with fail
       refine⟨⟨k+1,hlt,by go_num,FO,FB⟩,by simp [intOf];omega⟩
    ·obtain rfl:k=n:=by omega
     go_wp2_with fail
     go_ret2
     first|refine HQ.out _ _ ?_|(rw [hB];refine HQ.out _ _ ?_)
     exact⟨⟨some ⟨ob,0,none⟩,k,k,rfl,fun h=>absurd rfl h,fun _=>⟨ob,rfl,rfl,by have h1:=(HFIN.out _ HB2.out).size;have h2:=hB;have h3:=hOB;omega,HOK.out,fun k' m hm=>((HHM.out.2 k' m hm).st.ok (by omega)).len⟩⟩,(HFIN.out _ HB2.out).trans (HBK.out.mono (by have h1:=(HFIN.out _ HB2.out).size;have h2:=hB;have h3:=hOB;omega))⟩
  ·have u1 : (V != 0) = true := by simpa using hV0
   have HV0:=Lib.hid hV0
   clear hV0 hx2 hx1
   go_wp2_with fail
   go_ret2
   first|refine HQ.out _ _ ?_|(rw [hB];refine HQ.out _ _ ?_)
   exact⟨⟨none,0,0,rfl,fun _=>⟨rfl,rfl,rfl⟩,fun h=>absurd h HV0.out⟩,HFIN.out _ HB2.out⟩
 ·have E:Hid (V=ce):=Lib.hid (by rw [HV.out];unfold statesE;rw [<-HCE.out,if_pos h0])
  have u1 : (ce != 0) = true := by simpa using h0
  have HC0:=Lib.hid h0
  clear h0
  go_wp2_with fail
  go_ret2
  rw [<-E.out]
  first|refine HQ.out _ _ ?_|(rw [hB];refine HQ.out _ _ ?_)
  exact⟨⟨none,0,0,rfl,fun _=>⟨rfl,rfl,rfl⟩,fun h=>absurd (by rw [<-E.out];exact h) HC0.out⟩,HFIN.out _ (Below.refl _ _)⟩
theorem seven_cells {w:World} {b:Nat} {T:TypeId} {v0 v1 v2 v3 v4 v5 v6:Value} (h:w.heap[b]?=some (.cells #[v0,v1,v2,v3,v4,v5,v6] T (0,0))):
  w.cell? ⟨b,0,none⟩=some v0/\w.cell? ⟨b,1,none⟩=some v1/\w.cell? ⟨b,2,none⟩=some v2/\w.cell? ⟨b,3,none⟩=some v3/\w.cell? ⟨b,4,none⟩=some v4/\w.cell? ⟨b,5,none⟩=some v5/\w.cell? ⟨b,6,none⟩=some v6:=
 ⟨cell_of_row w b 0 _ _ _ h,cell_of_row w b 1 _ _ _ h,cell_of_row w b 2 _ _ _ h,cell_of_row w b 3 _ _ _ h,cell_of_row w b 4 _ _ _ h,cell_of_row w b 5 _ _ _ h,cell_of_row w b 6 _ _ _ h⟩
theorem same18_any (s:VSt) (xo yo to' xo2 yo2 to2:Option Addr) (xc yc tc xc2 yc2 tc2:Nat) (w:World) (h1:StLs w s xo xc yo yc to' tc) (h2:StLs w s xo2 xc2 yo2 yc2 to2 tc2) (ls:VLen s):
  Calls Tryz.prog 15 #[.agg #[.int .i64 s.frame,.slice xo s.x.length xc,.slice yo s.y.length yc,.slice to' s.tries.length tc,.bool s.mt,.int .i64 s.recv,.int .i64 s.frm],.agg #[.int .i64 s.frame,.slice xo2 s.x.length xc2,.slice yo2 s.y.length yc2,.slice to2 s.tries.length tc2,.bool s.mt,.int .i64 s.recv,.int .i64 s.frm]] w
   fun e w'=>e= .returned (.bool true)/\Below w.heap.size w w':=by
 obtain⟨hA,hB,hb⟩:=two_allocs w (.cells #[.int .i64 s.frame,.slice xo s.x.length xc,.slice yo s.y.length yc,.slice to' s.tries.length tc,.bool s.mt,.int .i64 s.recv,.int .i64 s.frm] 40) (.cells #[.int .i64 s.frame,.slice xo2 s.x.length xc2,.slice yo2 s.y.length yc2,.slice to2 s.tries.length tc2,.bool s.mt,.int .i64 s.recv,.int .i64 s.frm] 40)
 have g1:=h1.below hb;have g2:=h2.below hb
 have lx:s.x.length<=1000000:=Nat.le_trans ls.x (by decide);have ly:s.y.length<=1000000:=Nat.le_trans ls.y (by decide)
 have eq1: ∀l:List Int,decide (l=l)=true:=fun l=>decide_eq_true rfl
 have HX:=Lib.hid (fun(wx:World) (hx:wx.heap=_)=>same17_any s.x s.x xo xo2 xc xc2 wx (g1.x.heap hx) (g2.x.heap hx) lx lx)
 have HY:=Lib.hid (fun(wx:World) (hx:wx.heap=_)=>same17_any s.y s.y yo yo2 yc yc2 wx (g1.y.heap hx) (g2.y.heap hx) ly ly)
 have HT:=Lib.hid (fun(wx:World) (hx:wx.heap=_)=>same17_any s.tries s.tries to' to2 tc tc2 wx (g1.t.heap hx) (g2.t.heap hx) ls.t ls.t)
 simp only [eq1]at HX HY HT
 have HA:=Lib.hid hA;have HB:=Lib.hid hB;have HBB:=Lib.hid hb
 clear g1 g2 lx ly eq1 hA hB hb h1 h2 ls
 go_in
 go_upto_region 1 with fail
 generalize(w.alloc _).alloc _=W at *
 generalize hH:w.heap.size=H at *
 obtain⟨c0,c1,c2,c3,c4,c5,c6⟩:=seven_cells HA.out
 obtain⟨d0,d1,d2,d3,d4,d5,d6⟩:=seven_cells HB.out
 generalize s.frame=f at *;generalize s.mt=mt at *;generalize s.recv=r at *;generalize s.frm=g at *
 generalize s.x.length=nx at *;generalize s.y.length=ny at *;generalize s.tries.length=nt at *
 go_wp2_with fail
 refine(HX.out _ rfl).mono ?_
 rintro e w1 ⟨rfl,q1,rfl⟩
 go_wp2_with fail
 refine(HY.out (W.drewN q1) rfl).mono ?_
 rintro e w2 ⟨rfl,q2,rfl⟩
 go_wp2_with fail
 refine(HT.out (W.drewN (q1+q2)) rfl).mono ?_
 rintro e w3 ⟨rfl,q3,rfl⟩
 go_wp2_with fail
 go_ret
 exact⟨by simp,by rw [hH];exact below_drewN HBB.out _⟩
abbrev S16 (oa ob k p q:Nat) (s:VSt) (xo1 yo1 to1:Option Addr) (xc1 yc1 tc1:Nat) (xo2 yo2 to2:Option Addr) (xc2 yc2 tc2:Nat) (w:World):Prop:=
 w.cell? ⟨oa,k,none⟩=some (.pointer (some ⟨p,0,none⟩))/\w.cell? ⟨ob,k,none⟩=some (.pointer (some ⟨q,0,none⟩))/\w.cell? ⟨p,0,none⟩=some (.int .i64 s.frame)/\w.cell? ⟨p,1,none⟩=some (.slice xo1 s.x.length xc1)/\w.cell? ⟨p,2,none⟩=some (.slice yo1 s.y.length yc1)/\w.cell? ⟨p,3,none⟩=some (.slice to1 s.tries.length tc1)/\w.cell? ⟨p,4,none⟩=some (.bool s.mt)/\w.cell? ⟨p,5,none⟩=some (.int .i64 s.recv)/\w.cell? ⟨p,6,none⟩=some (.int .i64 s.frm)/\w.cell? ⟨q,0,none⟩=some (.int .i64 s.frame)/\w.cell? ⟨q,1,none⟩=some (.slice xo2 s.x.length xc2)/\w.cell? ⟨q,2,none⟩=some (.slice yo2 s.y.length yc2)/\w.cell? ⟨q,3,none⟩=some (.slice to2 s.tries.length tc2)/\w.cell? ⟨q,4,none⟩=some (.bool s.mt)/\w.cell? ⟨q,5,none⟩=some (.int .i64 s.recv)/\w.cell? ⟨q,6,none⟩=some (.int .i64 s.frm)
theorem OutAt.one {w:World} {ob n:Nat} {M:Nat->Option VM} (h:OutAt w ob n n M) {k:Nat} (hk:k<n): ∃pv,w.cell? ⟨ob,k,none⟩=some pv/\OutOne w pv (M k):=by
 obtain⟨cs,hr,hs,ha⟩:=h
 obtain⟨pv,e,h1,h2⟩:=ha k hk
 exact⟨pv,by rw [cell_of_row _ _ _ _ _ _ hr];exact e,h1 hk⟩
theorem CsAt.seven {w:World} {b:Nat} {s:VSt} (h:CsAt w b s): ∃xo xc yo yc to' tc,b<w.heap.size/\(w.cell? ⟨b,0,none⟩=some (.int .i64 s.frame)/\w.cell? ⟨b,1,none⟩=some (.slice xo s.x.length xc)/\w.cell? ⟨b,2,none⟩=some (.slice yo s.y.length yc)/\w.cell? ⟨b,3,none⟩=some (.slice to' s.tries.length tc)/\w.cell? ⟨b,4,none⟩=some (.bool s.mt)/\w.cell? ⟨b,5,none⟩=some (.int .i64 s.recv)/\w.cell? ⟨b,6,none⟩=some (.int .i64 s.frm))/\StLs w s xo xc yo yc to' tc:=by
 obtain⟨xo,xc,yo,yc,to',tc,hr,hl⟩:=h
 exact⟨xo,xc,yo,yc,to',tc,lt_of_row hr,seven_cells hr,hl⟩
theorem samestates_any (M:Nat->Option VM) (n oa ob ca cb:Nat) (w:World) (ha:OutAt w oa n n M) (hb:OutAt w ob n n M) (hn:n<=1000000) (hl: ∀k m,M k=some m->VLen m.st):
  Calls Tryz.prog 17 #[.slice (some ⟨oa,0,none⟩) n ca,.slice (some ⟨ob,0,none⟩) n cb,.int .i64 (-1)] w fun e w'=>e= .returned (.bool true)/\Below w.heap.size w w':=by
 have HA:=Lib.hid ha;have HB:=Lib.hid hb;have HL:=Lib.hid hl
 clear ha hb hl
 have n1:(n:Int)<=1000000:=by omega
 go_in
 go_wp2_with fail
 go_loopw [7] (fun iv wr=> ∃k:Nat,k<=n/\iv= .int .i64 k/\Hid (Below w.heap.size w wr)) (fun iv _=>n-(intOf iv).toNat)
 case atStart=>exact⟨0,Nat.zero_le _,rfl,Lib.hid (Below.refl _ _)⟩
 case round=>
  obtain⟨k,hk,rfl,HW⟩:=hrel
  rename World=>wr
  by_cases hlt:k<n
  ·obtain⟨pa,ea,oa1⟩:=(HA.out.below HW.out).one hlt
   obtain⟨pb,eb,ob1⟩:=(HB.out.below HW.out).one hlt
   have hk0:(0:Int)<=(k:Int):=by omega
   have hk1:(k:Int)<(n:Int):=by omega
   have hne:((k:Int)== -1)=false:=by simp<;>omega
   cases hM:M k with
   |none=>
    rw [hM]at oa1 ob1
    obtain rfl:pa= .pointer none:=oa1
    obtain rfl:pb= .pointer none:=ob1
    clear hM
    go_wp2_with fail
    go_quiet (fail)
    go_wp2_with fail
    refine⟨⟨k+1,hlt,by go_num,Lib.hid (below_drewN HW.out _)⟩,by simp [intOf];omega⟩
   |some m=>
    rw [hM]at oa1 ob1
    obtain⟨p,rfl,hp⟩:=oa1
    obtain⟨q,rfl,hq⟩:=ob1
    have hlen:=HL.out k m hM
    have lo:=World.block_lt_of_cell? wr _ ea
    have lb:=World.block_lt_of_cell? wr _ eb
    generalize m.st=s at *
    obtain⟨xo1,xc1,yo1,yc1,to1,tc1,lp,P1,L1⟩:=hp.seven
    obtain⟨xo2,xc2,yo2,yc2,to2,tc2,lq,P2,L2⟩:=hq.seven
    have HS:Hid (∀wx,Below wr.heap.size wr wx->S16 oa ob k p q s xo1 yo1 to1 xc1 yc1 tc1 xo2 yo2 to2 xc2 yc2 tc2 wx):=Lib.hid fun wx hx=>by
     have kk: ∀b i v,b<wr.heap.size->wr.cell? ⟨b,i,none⟩=some v->wx.cell? ⟨b,i,none⟩=some v:=fun b i v hb h=>(hx.cell (p:=⟨b,i,none⟩) hb).trans h
     obtain⟨a0,a1,a2,a3,a4,a5,a6⟩:=P1
     obtain⟨b0,b1,b2,b3,b4,b5,b6⟩:=P2
     exact⟨kk _ _ _ lo ea,kk _ _ _ lb eb,kk _ _ _ lp a0,kk _ _ _ lp a1,kk _ _ _ lp a2,kk _ _ _ lp a3,kk _ _ _ lp a4,kk _ _ _ lp a5,kk _ _ _ lp a6,kk _ _ _ lq b0,kk _ _ _ lq b1,kk _ _ _ lq b2,kk _ _ _ lq b3,kk _ _ _ lq b4,kk _ _ _ lq b5,kk _ _ _ lq b6⟩
    have hd:Below wr.heap.size wr wr.drew:=(Below.refl _ _).drew
    have K1:Hid (S16 oa ob k p q s xo1 yo1 to1 xc1 yc1 tc1 xo2 yo2 to2 xc2 yc2 tc2 wr.drew):=Lib.hid (HS.out _ hd)
    have HC:Hid (Calls Tryz.prog 15 #[.agg #[.int .i64 s.frame,.slice xo1 s.x.length xc1,.slice yo1 s.y.length yc1,.slice to1 s.tries.length tc1,.bool s.mt,.int .i64 s.recv,.int .i64 s.frm],.agg #[.int .i64 s.frame,.slice xo2 s.x.length xc2,.slice yo2 s.y.length yc2,.slice to2 s.tries.length tc2,.bool s.mt,.int .i64 s.recv,.int .i64 s.frm]] wr.drew fun e w5=>e= .returned (.bool true)/\Hid (S16 oa ob k p q s xo1 yo1 to1 xc1 yc1 tc1 xo2 yo2 to2 xc2 yc2 tc2 w5)/\Hid (Below w.heap.size w w5)):=Lib.hid (by
     refine(same18_any s xo1 yo1 to1 xo2 yo2 to2 xc1 yc1 tc1 xc2 yc2 tc2 wr.drew (L1.below hd) (L2.below hd) hlen).mono ?_
     rintro e w5 ⟨rfl,h5⟩
     have h5':=hd.trans h5
     exact⟨rfl,Lib.hid (HS.out _ h5'),Lib.hid (below_next HW.out h5')⟩)
    clear HS hd P1 P2 L1 L2 hp hq hM hlen lp lq lo lb ea eb
    go_upto_region 7 with fail
    go_region_held3 (fun w=>w.cell? ⟨oa,k,none⟩=some (.pointer (some ⟨p,0,none⟩))/\w.cell? ⟨ob,k,none⟩=some (.pointer (some ⟨q,0,none⟩))/\w.cell? ⟨p,0,none⟩=some (.int .i64 s.frame)/\w.cell? ⟨p,1,none⟩=some (.slice xo1 s.x.length xc1)/\w.cell? ⟨p,2,none⟩=some (.slice yo1 s.y.length yc1)/\w.cell? ⟨p,3,none⟩=some (.slice to1 s.tries.length tc1)/\w.cell? ⟨p,4,none⟩=some (.bool s.mt)/\w.cell? ⟨p,5,none⟩=some (.int .i64 s.recv)/\w.cell? ⟨p,6,none⟩=some (.int .i64 s.frm)/\w.cell? ⟨q,0,none⟩=some (.int .i64 s.frame)/\w.cell? ⟨q,1,none⟩=some (.slice xo2 s.x.length xc2)/\w.cell? ⟨q,2,none⟩=some (.slice yo2 s.y.length yc2)/\w.cell? ⟨q,3,none⟩=some (.slice to2 s.tries.length tc2)/\w.cell? ⟨q,4,none⟩=some (.bool s.mt)/\w.cell? ⟨q,5,none⟩=some (.int .i64 s.recv)/\w.cell? ⟨q,6,none⟩=some (.int .i64 s.frm)) (first|with_reducible exact K1.out|with_reducible exact K5.out) (first|(go_at_call 15;(with_reducible refine HC.out.mono ?_);rintro e w5 ⟨rfl,K5,HB5⟩))
    all_goals
     go_wp2_with fail
     refine⟨⟨k+1,hlt,by go_num,HB5⟩,by simp [intOf];omega⟩
  ·obtain rfl:k=n:=by omega
   go_wp2_with fail
   go_ret
   exact⟨rfl,HW.out⟩
def setU (u:RUnit) (K:Nat) (z:RIns):RUnit:=⟨u.mdl,u.vsn,u.lits,u.funcs,u.funs,u.code.set K z⟩
theorem setU_len (u:RUnit) (K:Nat) (z:RIns):(setU u K z).code.length=u.code.length:=by unfold setU;simp
theorem setU_but (u:RUnit) (K:Nat) (z:RIns):ButAt u (setU u K z) K:=⟨rfl,rfl,rfl,setU_len u K z,fun i hi=>by unfold setU;exact List.getElem?_set_ne (fun e=>hi e.symm)⟩
section
variable (f:Nat) (u:RUnit) (K:Nat) (z:RIns) (n:Nat) (hn:n=u.code.length) (lo fo go co:Option Addr) (lc fc gc cc:Nat) (w:World)
include hn
theorem setU_check (h:ChkAt w f (setU u K z) lo fo go co):Calls Tryz.prog 16 #[.agg #[.string u.mdl,.int .i64 u.vsn,.slice lo u.lits.length lc,.slice fo u.funcs.length fc,.slice go u.funs.length gc,.slice co n cc]] w fun e w'=>e= .returned (.tuple #[.int .i64 (checkI (f+1) (setU u K z)),.int .i64 (checkE (f+1) (setU u K z))])/\Below w.heap.size w w':=by
 have k:=check_any f (setU u K z) lo fo go co lc fc gc cc w h.rows h.sp h.up h.lits h.cap h.nm
 rw [setU_len,<-hn]at k
 exact k
theorem setU_large (h:UP w (setU u K z) lo fo go co):Calls Tryz.prog 9 #[.agg #[.string u.mdl,.int .i64 u.vsn,.slice lo u.lits.length lc,.slice fo u.funcs.length fc,.slice go u.funs.length gc,.slice co n cc]] w fun e w'=> ∃b,e= .returned (.bool b)/\Below w.heap.size w w':=by
 have k:=vlarge_any (setU u K z) lo fo go co lc fc gc cc w h
 rw [setU_len,<-hn]at k
 exact k.mono fun e w' ⟨b,h1,h2,_⟩=>⟨b,h1,h2⟩
theorem setU_where (h:ChkAt w f (setU u K z) lo fo go co):Calls Tryz.prog 11 #[.agg #[.string u.mdl,.int .i64 u.vsn,.slice lo u.lits.length lc,.slice fo u.funcs.length fc,.slice go u.funs.length gc,.slice co n cc]] w fun e w'=>e= .returned (.tuple #[.int .i64 (whereV (f+1) (setU u K z)).1,.int .i64 (whereV (f+1) (setU u K z)).2])/\Below w.heap.size w w':=by
 have k:=vwhere_any f (setU u K z) lo fo go co lc fc gc cc w h
 rw [setU_len,<-hn]at k
 exact k
theorem setU_states (h:ChkAt w f (setU u K z) lo fo go co) (hs:statesE (f+1) (setU u K z)=0) (he:examMV (setU u K z)=examMV u):Calls Tryz.prog 13 #[.agg #[.string u.mdl,.int .i64 u.vsn,.slice lo u.lits.length lc,.slice fo u.funcs.length fc,.slice go u.funs.length gc,.slice co n cc]] w fun e w'=>(∃ob oc,e= .returned (.tuple #[.slice (some ⟨ob,0,none⟩) n oc,.int .i64 0])/\OutAt w' ob n n (examMV u).2)/\Below w.heap.size w w':=by
 have k:=vstates_any f (setU u K z) lo fo go co lc fc gc cc w h
 rw [setU_len,<-hn]at k
 refine k.mono fun e w' ⟨⟨oo,ol,oc,e1,_,e2⟩,hb⟩=>⟨?_,hb⟩
 obtain⟨ob,rfl,rfl,_,h1,_⟩:=e2 hs
 rw [setU_len,<-hn,he]at h1
 refine⟨ob,oc,?_,h1⟩
 rw [e1,hs,setU_len,<-hn]
end
theorem statesE_zero {f:Nat} {u:RUnit} (h:statesE f u=0):checkE f u=0/\(examMV u).1.2=0:=by
 unfold statesE at h
 by_cases c:checkE f u=0
 ·rw [if_neg (fun e=>e c)]at h;exact⟨c,h⟩
 ·rw [if_pos c]at h;exact absurd h c
theorem vunr_walk (u:RUnit) (lo fo go co:Option Addr) (lc fc gc cc:Nat) (which:Int) (z:RIns) (so zo' zs:Option Addr) (sc zc' zsc:Nat) (w:World) (hup:UP w u lo fo go co) (hrows:RowsAt w) (hsp:SpaceAt w)
  (hz: ∀wx,Below w.heap.size w wx->InsR wx [.int .i64 z.op,.int .i64 z.dst.kind,.int .i64 z.dst.n,.slice so z.src.length sc,.int .i64 z.to,.int .i64 z.n,.int .i64 z.live,.string z.name,.slice zo' z.cases.length zc',.slice zs z.segs.length zsc] z)
  (hnm: ∀x∈u.code,x.name.size<=140737488355328) (hzn:z.name.size<=140737488355328) (hwh:I64 which):
  Calls Tryz.prog 5 #[.agg #[.string u.mdl,.int .i64 u.vsn,.slice lo u.lits.length lc,.slice fo u.funcs.length fc,.slice go u.funs.length gc,.slice co u.code.length cc],.int .i64 which,
   .agg #[.int .i64 z.op,.int .i64 z.dst.kind,.int .i64 z.dst.n,.slice so z.src.length sc,.int .i64 z.to,.int .i64 z.n,.int .i64 z.live,.string z.name,.slice zo' z.cases.length zc',.slice zs z.segs.length zsc]] w fun e w'=>e= .returned (.bool true)/\Below w.heap.size w w':=by
 obtain⟨hA,hB,hb⟩:=two_allocs w (.cells #[.string u.mdl,.int .i64 u.vsn,.slice lo u.lits.length lc,.slice fo u.funcs.length fc,.slice go u.funs.length gc,.slice co u.code.length cc] 27)
  (.cells #[.int .i64 z.op,.int .i64 z.dst.kind,.int .i64 z.dst.n,.slice so z.src.length sc,.int .i64 z.to,.int .i64 z.n,.int .i64 z.live,.string z.name,.slice zo' z.cases.length zc',.slice zs z.segs.length zsc] 47)
 have HA:=Lib.hid hA;have HZB:=Lib.hid hB;have HB:=Lib.hid hb
 have HU:=Lib.hid hup;have HR:=Lib.hid hrows;have HS:=Lib.hid hsp;have HZ:=Lib.hid hz;have HN:=Lib.hid (And.intro hnm hzn);have HWH:=Lib.hid hwh
 obtain⟨-,a1,a2,a3,a4,a5,a6,a7,a8,a9,a10⟩:=hz w (Below.refl _ _)
 have HZL:=Lib.hid (And.intro a4 (And.intro a9 a10))
 clear hA hB hb hup hrows hsp hz hnm hzn hwh a1 a2 a3 a4 a5 a6 a7 a8 a9 a10
 have HAW:=Lib.hid (fun(wx:World) (hx:Below w.heap.size w wx)=>(vawake_any wx (HR.out.below hx) (HS.out.below hx)).mono fun e w' (h:e= .returned (.bool true)/\Below wx.heap.size wx w')=>(show e= .returned (.bool true)/\Hid (Below w.heap.size w w')from⟨h.1,Lib.hid (below_next hx h.2)⟩))
 go_in
 go_upto_region 1 with fail
 generalize(w.alloc _).alloc _=W at *
 obtain⟨c0,c1,c2,c3,c4,c5⟩:=six_cells HA.out
 have hUP:=HU.out.below HB.out
 have HLA:=Lib.hid (vlarge_any u lo fo go co lc fc gc cc W hUP)
 go_wp2_with fail
 refine HLA.out.mono ?_
 rintro e w1 ⟨b,rfl,hb1,hlit⟩
 have HW1:=Lib.hid (below_next (w:=w) HB.out hb1)
 have HA1:=Lib.hid ((hb1.block _ (lt_of_row HA.out)).trans HA.out)
 have HZ1:=Lib.hid ((hb1.block _ (lt_of_row HZB.out)).trans HZB.out)
 have hUP1:=hUP.below hb1
 have HUP1:=Lib.hid hUP1
 have HLT:Hid (b=false-> ∃f,SlAt w1 9 (TmAt w1 f) lo u.lits/\0<=leftF f u.lits 3000):=Lib.hid (fun e=>by obtain⟨f,h1,h2⟩:=hlit e;exact⟨f,h1.tms hb1,h2⟩)
 clear hlit hb1 hUP hUP1 HLA c0 c1 c2 c3 c4 c5
 cases b with
 |true=>
  go_wp2_with fail
  refine(HAW.out _ HW1.out).mono ?_
  rintro e wz ⟨rfl,HFZ⟩
  go_wp2_with fail
  go_ret
  exact⟨rfl,HFZ.out⟩
 |false=>
  obtain⟨f0,hl0,hl1⟩:=HLT.out rfl
  obtain⟨f,hl2,hcap⟩:=depth18 hl0 hl1
  have HLIT:=Lib.hid (And.intro hl2 hcap)
  clear hl0 hl1 hl2 hcap HLT
  obtain⟨c0,c1,c2,c3,c4,c5⟩:=six_cells HA1.out
  have r4:=HUP1.out.codeLen
  obtain⟨n,hn⟩: ∃n,n=u.code.length:=⟨_,rfl⟩
  rw [<-hn]at c5 r4
  have HNN:=Lib.hid hn
  by_cases h0:n=0
  ·have u0:((n:Int)==0)=true:=by simp [h0]
   clear hn h0
   go_wp2_with fail
   refine(HAW.out _ HW1.out).mono ?_
   rintro e wz ⟨rfl,HFZ⟩
   go_wp2_with fail
   go_ret
   exact⟨rfl,HFZ.out⟩
  have u0:((n:Int)==0)=false:=by simp [h0]
  obtain⟨q0,q1,q2,q3,q4,q5,q6,q7,q8,q9⟩:=ten_cells HZ1.out
  obtain⟨l1,l2,l3⟩:=HZL.out
  unfold maxLen at l1 l2 l3
  have hpos:0<n:=by omega
  clear hn
  go_wp2_with fail
  ·refine(HAW.out _ HW1.out).mono ?_
   rintro e wz ⟨rfl,HFZ⟩
   go_wp2_with fail
   go_ret
   exact⟨rfl,HFZ.out⟩
  have hst:=vstates_any f u lo fo go co lc fc gc cc w1 ⟨HR.out.below HW1.out,HS.out.below HW1.out,HUP1.out,HLIT.out.1,HLIT.out.2,HN.out.1⟩
  obtain⟨E,hE⟩: ∃E,E=statesE (f+1) u:=⟨_,rfl⟩
  unfold StatesQ at hst
  rw [<-hE,<-HNN.out]at hst
  have HE:=Lib.hid hE
  refine hst.mono ?_
  rintro e w2 ⟨⟨oo,ol,oc,rfl,hs1,hs2⟩,hb2⟩
  have HW2:=Lib.hid (below_next HW1.out hb2)
  have HA2:=Lib.hid ((hb2.block _ (lt_of_row HA1.out)).trans HA1.out);have HZ2:=Lib.hid ((hb2.block _ (lt_of_row HZ1.out)).trans HZ1.out)
  have HUP2:=Lib.hid (HUP1.out.below hb2);have HLI2:=Lib.hid (HLIT.out.1.tms hb2)
  have h1w:w1.heap.size<=w2.heap.size:=hb2.size
  have HOL:=Lib.hid (lt_of_row HZ1.out)
  clear hst hE hb2 c0 c1 c2 c3 c4 c5 q0 q1 q2 q3 q4 q5 q6 q7 q8 q9 HA1 HZ1 HUP1 l1 l2 l3
  by_cases hE0:E=0
  case neg=>
   obtain⟨rfl,rfl,rfl⟩:=hs1 hE0
   have u1 : (E != 0) = true := by simpa using hE0
   clear hs1 hs2 hE0
   go_wp2_with fail
   refine(HAW.out _ HW2.out).mono ?_
   rintro e wz ⟨rfl,HFZ⟩
   go_wp2_with fail
   go_ret
   exact⟨rfl,HFZ.out⟩
  subst hE0
  obtain⟨ob,rfl,hol,hob,hout,hvl⟩:=hs2 rfl
  have hol':=hol.symm
  subst hol'
  clear hol
  have HOB:=Lib.hid (And.intro hob (And.intro hout hvl))
  clear hs1 hs2 hob hout hvl
  obtain⟨c0,c1,c2,c3,c4,c5⟩:=six_cells HA2.out
  rw [<-HNN.out]at c5
  have u2:((n:Int)!=(n:Int))=false:=by simp
  have hpi:(0:Int)<(n:Int):=by omega
  have t1:=Int.tmod_lt_of_pos which hpi
  have t2:=Int.lt_tmod_of_pos which hpi
  have hK: ∃K:Nat,K<n/\((which.tmod (n:Int)<0/\wrap64 (which.tmod (n:Int)+(n:Int))=(K:Int))∨(¬which.tmod (n:Int)<0/\which.tmod (n:Int)=(K:Int))):=by
   by_cases hneg:which.tmod (n:Int)<0
   ·exact⟨(which.tmod (n:Int)+n).toNat,by omega,.inl ⟨hneg,by rw [Int.toNat_of_nonneg (by omega)];unfold wrap64;omega⟩⟩
   ·exact⟨(which.tmod (n:Int)).toNat,by omega,.inr ⟨hneg,by rw [Int.toNat_of_nonneg (by omega)]⟩⟩
  clear t1 t2 hpi
  obtain⟨K,hKn,hK⟩:=hK
  have hk0:(0:Int)<=(K:Int):=by omega
  have hk1:(K:Int)<(n:Int):=by omega
  obtain⟨pv,e1,ho1⟩:=HOB.out.2.1.one hKn
  have HO1:=Lib.hid ho1;have HKN:=Lib.hid hKn
  clear ho1 hKn
  obtain⟨bb,off,hco,hbb,hrr⟩:=HUP2.out.code.rows (fun e=>by have:=HNN.out;rw [e]at this;simp at this;omega)
  subst hco
  obtain⟨vs,v1,v2,v3⟩:=rows_values hrr insR_one
  obtain⟨i0,hi,hz0,hz1,hz2⟩:=info_parts infoIns2
  obtain⟨g1,g2,g3⟩:=two_allocs w2 (.cells #[.string u.mdl,.int .i64 u.vsn,.slice lo u.lits.length lc,.slice fo u.funcs.length fc,.slice go u.funs.length gc,.slice (some ⟨bb,off,none⟩) n cc] 27) (.cells #[] 47)
  have HOWN:=Lib.hid (own_empty g2)
  have HNEWS:Hid (∀j u',vs[j]?=some u'->((w2.alloc (.cells #[.string u.mdl,.int .i64 u.vsn,.slice lo u.lits.length lc,.slice fo u.funcs.length fc,.slice go u.funs.length gc,.slice (some ⟨bb,off,none⟩) n cc] 27)).alloc (.cells #[] 47)).cell? ((⟨bb,off,none⟩:Addr).add j)=some u'):=Lib.hid fun j u' hj=>by
   have hjl:j<u.code.length*10:=by rw [<-v1];exact(List.getElem?_eq_some_iff.1 hj).1
   rw [<-hj,<-v2 j hjl,show(⟨bb,off,none⟩:Addr).add j=⟨bb,off+j,none⟩by simp [Addr.add]]
   exact g3.cell (p:=⟨bb,off+j,none⟩) hbb
  have hn63:n<=1000000:=by have h1:=HNN.out;have h2:=(check_ok (statesE_zero HE.out.symm).1).1.code1;omega
  have h63:0+n<=maxLen:=by unfold maxLen;omega
  have hby:(0+n)*136<=140737488355328:=by omega
  rw [<-HNN.out]at v1
  have HVL:=Lib.hid v1;have HVO:=Lib.hid v3;have H63:=Lib.hid h63;have HBY:=Lib.hid hby;have HPOS:=Lib.hid hpos
  have HR4:Hid (∀w' g,(∀k,k<n*10->w'.cell? ⟨g,0+k,none⟩=vs[k]?)->Below w2.heap.size w2 w'->g<w'.heap.size->SlAt w' 10 (InsR w2) (some ⟨g,0,none⟩) u.code):=Lib.hid fun w' g hk hbw hg=>.inr ⟨g,0,rfl,hg,rows_copy hrr v2 (by rw [<-HNN.out];exact hk) (fun cs a h=>h)⟩
  have HG1:=Lib.hid g1;have HG3:=Lib.hid g3
  clear g1 g2 g3 hrr v1 v2 v3 hbb h63 hby hpos
  cases hM:(examMV u).2 K with
  |some m=>
   have HM:=HO1.out
   rw [hM]at HM
   obtain⟨pb,rfl,-⟩:=HM
   rcases hK with⟨hneg,hw⟩|⟨hneg,hw⟩
   all_goals
    go_wp2_with fail
    refine(HAW.out _ HW2.out).mono ?_
    rintro e wz ⟨rfl,HFZ⟩
    go_wp2_with fail
    go_ret
    exact⟨rfl,HFZ.out⟩
  |none=>
   have HM:=HO1.out
   rw [hM]at HM
   obtain rfl:pv= .pointer none:=HM
   have HMK:=Lib.hid hM
   clear hM HO1
   rcases hK with⟨hneg,hw⟩|⟨hneg,hw⟩
   all_goals
    have d5:((w2.alloc (.cells #[.string u.mdl,.int .i64 u.vsn,.slice lo u.lits.length lc,.slice fo u.funcs.length fc,.slice go u.funs.length gc,.slice (some ⟨bb,off,none⟩) n cc] 27)).alloc (.cells #[] 47)).cell? ⟨w.heap.size,5,none⟩=some (.slice (some ⟨bb,off,none⟩) n cc):=(HG3.out.cell (p:=⟨w.heap.size,5,none⟩) (lt_of_row HA2.out)).trans c5
    go_upto_region 15 with(at_builtin;refine wpList_append_lies _ rfl (.tmp 76) (.tmp 78) 25 rfl 0 47 i0 _ 10 136 Tryz.underlying25 hi hz0 hz1 hz2 rfl (by decide) _ 0 _ rfl HOWN.out ⟨bb,off,none⟩ n cc vs rfl HVL.out HNEWS.out HVO.out HPOS.out H63.out HBY.out (Nat.zero_le _) _ rfl ?_;intro g cap w5 ho5 hg5 hat hlt5;rw [Nat.zero_add]at ho5 ⊢;rw [List.nil_append]at ho5;have hx5:=(hg5.block w2.heap.size (lt_of_row HG1.out) (fun e=>by have:w2.heap.size=w2.heap.size+1:=Option.some.inj e;omega)).trans HG1.out;obtain⟨p0,p1,p2,p3,p4,p5⟩:=six_cells hx5;have y5:=frozen_of_row w5 w2.heap.size 5 _ _ hx5;have HX5:=Lib.hid hx5;have HO5:=Lib.hid ho5;have HGR:=Lib.hid hg5;have HAT:=Lib.hid hat;have HL5:=Lib.hid hlt5;clear hx5 ho5 hg5 hat hlt5)
    have hgD:g≠w2.heap.size:=HAT.out.elim (fun e=>by have:w2.heap.size+1=g:=Option.some.inj e;omega) (fun e=>by rw [e];simp;omega)
    have hgw:w2.heap.size<=g:=HAT.out.elim (fun e=>by have:w2.heap.size+1=g:=Option.some.inj e;omega) (fun e=>by rw [e];simp;omega)
    have hb5:Below w2.heap.size w2 w5:=HG3.out.grown HGR.out HG3.out.size (fun k' e=>by have:w2.heap.size+1=k':=Option.some.inj e;omega)
    have hb6:=hb5.setCell (p:=⟨w2.heap.size,5,none⟩) (Nat.le_refl _) (.slice (some ⟨g,0,none⟩) n cap)
    have hD6:(w5.setCell ⟨w2.heap.size,5,none⟩ (.slice (some ⟨g,0,none⟩) n cap)).heap[w2.heap.size]?=some (.cells #[.string u.mdl,.int .i64 u.vsn,.slice lo u.lits.length lc,.slice fo u.funcs.length fc,.slice go u.funs.length gc,.slice (some ⟨g,0,none⟩) n cap] 27 (0,0)):=heap_setCell_same _ _ 5 _ _ _ HX5.out
    obtain⟨cur,r1,r2,r3⟩:=owns_row HO5.out
    have hg6:(w5.setCell ⟨w2.heap.size,5,none⟩ (.slice (some ⟨g,0,none⟩) n cap)).heap[g]?=some (.cells cur 47 (0,0)):=(heap_setCell_other _ _ _ _ hgD).trans r1
    have hs6:=HR4.out (w5.setCell ⟨w2.heap.size,5,none⟩ (.slice (some ⟨g,0,none⟩) n cap)) g (fun k' hk'=>by rw [<-(owns_cells HO5.out).2.2.2 k' hk'];exact World.cell?_of_block (heap_setCell_other _ _ _ _ hgD)) hb6 (by simpa using HL5.out)
    have hsz:K*10+10<=cur.size:=by
     rw [r3]
     have h1:=HKN.out
     have:(K+1)*10<=cap*10:=Nat.mul_le_mul_right _ (by omega)
     omega
    have HD6:=Lib.hid hD6;have HG6:=Lib.hid hg6;have HS6:=Lib.hid hs6;have HB6:=Lib.hid hb6;have HGD:=Lib.hid (And.intro hgD (And.intro hgw hsz))
    clear hgD hgw hb5 hb6 hD6 r1 r2 r3 hg6 hs6 hsz p0 p1 p2 p3 p4 p5 y5 HX5 HO5 HGR HAT HL5 d5 c0 c1 c2 c3 c4 c5 e1 HOWN HNEWS HVL HVO H63 HBY HR4 HG1 HG3 hi hz0 hz1 hz2
    generalize World.setCell w5 _ _=w6 at *
    obtain⟨c0,c1,c2,c3,c4,c5⟩:=six_cells HD6.out
    obtain⟨q0,q1,q2,q3,q4,q5,q6,q7,q8,q9⟩:=ten_cells ((HB6.out.block _ (lt_of_row HZ2.out)).trans HZ2.out)
    have hcs:=HGD.out.2.2
    obtain⟨y0,x0⟩: ∃v,w6.cell? ⟨g,K*10,none⟩=some v:=⟨_,cellOf HG6.out (by omega)⟩
    obtain⟨y1,x1⟩: ∃v,w6.cell? ⟨g,K*10+1,none⟩=some v:=⟨_,cellOf HG6.out (by omega)⟩
    obtain⟨y2,x2⟩: ∃v,w6.cell? ⟨g,K*10+2,none⟩=some v:=⟨_,cellOf HG6.out (by omega)⟩
    obtain⟨y3,x3⟩: ∃v,w6.cell? ⟨g,K*10+3,none⟩=some v:=⟨_,cellOf HG6.out (by omega)⟩
    obtain⟨y4,x4⟩: ∃v,w6.cell? ⟨g,K*10+4,none⟩=some v:=⟨_,cellOf HG6.out (by omega)⟩
    obtain⟨y5,x5⟩: ∃v,w6.cell? ⟨g,K*10+5,none⟩=some v:=⟨_,cellOf HG6.out (by omega)⟩
    obtain⟨y6,x6⟩: ∃v,w6.cell? ⟨g,K*10+6,none⟩=some v:=⟨_,cellOf HG6.out (by omega)⟩
    obtain⟨y7,x7⟩: ∃v,w6.cell? ⟨g,K*10+7,none⟩=some v:=⟨_,cellOf HG6.out (by omega)⟩
    obtain⟨y8,x8⟩: ∃v,w6.cell? ⟨g,K*10+8,none⟩=some v:=⟨_,cellOf HG6.out (by omega)⟩
    obtain⟨y9,x9⟩: ∃v,w6.cell? ⟨g,K*10+9,none⟩=some v:=⟨_,cellOf HG6.out (by omega)⟩
    have z0:=frozen_of_row w6 g (K*10) _ _ HG6.out
    have z1:=frozen_of_row w6 g (K*10+1) _ _ HG6.out
    have z2:=frozen_of_row w6 g (K*10+2) _ _ HG6.out
    have z3:=frozen_of_row w6 g (K*10+3) _ _ HG6.out
    have z4:=frozen_of_row w6 g (K*10+4) _ _ HG6.out
    have z5:=frozen_of_row w6 g (K*10+5) _ _ HG6.out
    have z6:=frozen_of_row w6 g (K*10+6) _ _ HG6.out
    have z7:=frozen_of_row w6 g (K*10+7) _ _ HG6.out
    have z8:=frozen_of_row w6 g (K*10+8) _ _ HG6.out
    have z9:=frozen_of_row w6 g (K*10+9) _ _ HG6.out
    clear hcs
    have HL7:=Lib.hid (setL_low (g:=g) HGD.out.2.1 [.int .i64 z.op,.int .i64 z.dst.kind,.int .i64 z.dst.n,.slice so z.src.length sc,.int .i64 z.to,.int .i64 z.n,.int .i64 z.live,.string z.name,.slice zo' z.cases.length zc',.slice zs z.segs.length zsc] (K*10) w6 HB6.out)
    have HD7:=Lib.hid ((setL_other (g:=g) (q:=w2.heap.size) (fun e=>HGD.out.1 e.symm) [.int .i64 z.op,.int .i64 z.dst.kind,.int .i64 z.dst.n,.slice so z.src.length sc,.int .i64 z.to,.int .i64 z.n,.int .i64 z.live,.string z.name,.slice zo' z.cases.length zc',.slice zs z.segs.length zsc] (K*10) w6).trans HD6.out)
    have HS7:=Lib.hid (sl_set HS6.out HG6.out (by have:=HKN.out;have:=HNN.out;omega) HGD.out.2.2 rfl (HZ.out w2 HW2.out))
    clear HD6 HG6 HS6 HB6 HGD
    go_upto_region 16 with fail
    generalize hw7:World.setCell _ _ _=w7 at *
    have hw7':w7=setL g [.int .i64 z.op,.int .i64 z.dst.kind,.int .i64 z.dst.n,.slice so z.src.length sc,.int .i64 z.to,.int .i64 z.n,.int .i64 z.live,.string z.name,.slice zo' z.cases.length zc',.slice zs z.segs.length zsc] (K*10) w6:=hw7.symm
    rw [<-hw7']at HL7 HD7 HS7
    clear hw7 hw7' x0 x1 x2 x3 x4 x5 x6 x7 x8 x9 z0 z1 z2 z3 z4 z5 z6 z7 z8 z9 q0 q1 q2 q3 q4 q5 q6 q7 q8 q9 c0 c1 c2 c3 c4 c5 y0 y1 y2 y3 y4 y5 y6 y7 y8 y9
    have HUP7:Hid (UP w7 (setU u K z) lo fo go (some ⟨g,0,none⟩)):=Lib.hid (by
     have h:=HUP2.out.below HL7.out
     exact⟨h.lits,h.funcs,h.funs,(show SlAt w7 10 (InsR w2) (some ⟨g,0,none⟩) (setU u K z).code from HS7.out).elim .inl (fun⟨b',off',b1,b2,b3⟩=>.inr ⟨b',off',b1,b2,fun j hj=>by
      obtain⟨cs,e1,e2,e3⟩:=b3 j hj
      exact⟨cs,e1,e2,e3.below HL7.out⟩⟩),h.mdlLen,h.vsn,h.litsLen,h.funcsLen,h.funsLen,by rw [setU_len];exact h.codeLen⟩)
    have HCA:Hid (∀wx,Below w7.heap.size w7 wx->ChkAt wx f (setU u K z) lo fo go (some ⟨g,0,none⟩)):=Lib.hid fun wx hx=>by
     have hx2:=below_next HL7.out hx
     have hxw:=below_next HW2.out hx2
     exact⟨HR.out.below hxw,HS.out.below hxw,HUP7.out.below hx,HLI2.out.tms hx2,HLIT.out.2,fun x hx'=>by
      have hx':x∈u.code.set K z:=hx'
      rcases List.mem_or_eq_of_mem_set hx' with h|h
      ·exact HN.out.1 x h
      ·rw [h];exact HN.out.2⟩
    have HLW:Hid (∀wx,Below w7.heap.size w7 wx->Below w.heap.size w wx):=Lib.hid fun wx hx=>below_next HW2.out (below_next HL7.out hx)
    have HROW:Hid (∀wx,Below w7.heap.size w7 wx->_):=Lib.hid fun wx hx=>six_cells ((hx.block _ (lt_of_row HD7.out)).trans HD7.out)
    have HBUT:=Lib.hid (unreached_law (setU_but u K z) HMK.out)
    clear HS7 HUP2 HLI2 HA2 HZ2
    obtain⟨c0,c1,c2,c3,c4,c5⟩:=HROW.out w7 (Below.refl _ _)
    have HCK:=Lib.hid (setU_check f u K z n HNN.out lo fo go (some ⟨g,0,none⟩) lc fc gc cap w7 (HCA.out w7 (Below.refl _ _)))
    obtain⟨ce,hce⟩: ∃ce,ce=checkE (f+1) (setU u K z):=⟨_,rfl⟩
    rw [<-hce]at HCK
    have HCE:=Lib.hid hce
    clear hce
    go_wp2_with fail
    refine HCK.out.mono ?_
    rintro e w8 ⟨rfl,hb8⟩
    have HB8:=Lib.hid hb8
    clear hb8 HCK c0 c1 c2 c3 c4 c5
    by_cases hce0:ce=0
    case neg=>
     have u3 : (ce != 0) = true := by simpa using hce0
     clear hce0
     go_wp2_with fail
     refine(HAW.out _ (HLW.out _ HB8.out)).mono ?_
     rintro e wz ⟨rfl,HFZ⟩
     go_wp2_with fail
     go_ret
     exact⟨rfl,HFZ.out⟩
    subst hce0
    obtain⟨c0,c1,c2,c3,c4,c5⟩:=HROW.out w8 HB8.out
    have HLG:=Lib.hid (setU_large u K z n HNN.out lo fo go (some ⟨g,0,none⟩) lc fc gc cap w8 (HUP7.out.below HB8.out))
    go_wp2_with fail
    refine HLG.out.mono ?_
    rintro e w9 ⟨b,rfl,hb9⟩
    have HB9:=Lib.hid (below_next HB8.out hb9)
    clear hb9 HLG c0 c1 c2 c3 c4 c5
    cases b with
    |true=>
     go_wp2_with fail
     refine(HAW.out _ (HLW.out _ HB9.out)).mono ?_
     rintro e wz ⟨rfl,HFZ⟩
     go_wp2_with fail
     go_ret
     exact⟨rfl,HFZ.out⟩
    |false=>
     have HX0:Hid ((examMV u).1.2=0):=Lib.hid (statesE_zero HE.out.symm).2
     have HSE:Hid (statesE (f+1) (setU u K z)=0):=Lib.hid (by unfold statesE;rw [if_neg (fun e=>e HCE.out.symm),HBUT.out];exact HX0.out)
     have HWE:Hid (whereV (f+1) (setU u K z)=(0,0)):=Lib.hid (by
      unfold whereV
      rw [if_neg (fun e=>e HCE.out.symm),HBUT.out]
      unfold examMV at *
      exact examM_zero _ _ _ HX0.out)
     obtain⟨c0,c1,c2,c3,c4,c5⟩:=HROW.out w9 HB9.out
     have HST:=Lib.hid (setU_states f u K z n HNN.out lo fo go (some ⟨g,0,none⟩) lc fc gc cap w9 (HCA.out w9 HB9.out) HSE.out HBUT.out)
     go_wp2_with fail
     refine HST.out.mono ?_
     rintro e w10 ⟨⟨ob2,oc2,rfl,hout2⟩,hb10⟩
     have HB10:=Lib.hid (below_next HB9.out hb10)
     have HO2:=Lib.hid hout2
     clear hout2 hb10 HST c0 c1 c2 c3 c4 c5
     obtain⟨c0,c1,c2,c3,c4,c5⟩:=HROW.out w10 HB10.out
     have HWR:=Lib.hid (setU_where f u K z n HNN.out lo fo go (some ⟨g,0,none⟩) lc fc gc cap w10 (HCA.out w10 HB10.out))
     rw [HWE.out]at HWR
     go_wp2_with fail
     refine HWR.out.mono ?_
     rintro e w11 ⟨rfl,hb11⟩
     have HB11:=Lib.hid (below_next HB10.out hb11)
     have HSM:=Lib.hid (samestates_any (examMV u).2 n ob ob2 oc oc2 w11 (HOB.out.2.1.below (below_next HL7.out HB11.out)) (HO2.out.below hb11) hn63 HOB.out.2.2)
     clear hb11 HWR c0 c1 c2 c3 c4 c5
     go_wp2_with fail
     refine HSM.out.mono ?_
     rintro e w12 ⟨rfl,hb12⟩
     have HB12:=Lib.hid (below_next HB11.out hb12)
     clear hb12
     go_wp2_with fail
     refine(HAW.out _ (HLW.out _ HB12.out)).mono ?_
     rintro e wz ⟨rfl,HFZ⟩
     go_wp2_with fail
     go_ret
     exact⟨rfl,HFZ.out⟩
open Go.ChangeShapes Go.WideShapes Go.ChangeAt Go.RowKit
open Go.ChangeMaps (open_string shut_string)
open Go.Proofs.YtepjanajflkakaaGreatDoor
theorem own:ownKnob Tryz.prog.godebug=none:=by kernel_rfl
theorem laidOut:laidOutB Tryz.prog=true:=by kernel_rfl
theorem laid_met (os:Os):laidMet Tryz.prog Rows.verifyUnreachedRow.laid ((laidWorld os).forCall (fun _ _=>0) ⟨#[],#[.agg #[.string ByteArray.empty,.int .i64 0,.slice none 0 0,.slice none 0 0,.slice none 0 0,.slice none 0 0],.int .i64 0,.agg #[.int .i64 0,.int .i64 0,.int .i64 0,.slice none 0 0,.int .i64 0,.int .i64 0,.int .i64 0,.string ByteArray.empty,.slice none 0 0,.slice none 0 0]],[]⟩).memory:=
 laidMet_of_run3 8 (by kernel_rfl) (by kernel_rfl) (by kernel_rfl)
theorem reads (os:Os) {H:Type} (enc:TypeId × Value->H): ∃ds places,DataW.whole enc Tryz.prog ((laidWorld os).forCall (fun _ _=>0) ⟨#[],#[.agg #[.string ByteArray.empty,.int .i64 0,.slice none 0 0,.slice none 0 0,.slice none 0 0,.slice none 0 0],.int .i64 0,.agg #[.int .i64 0,.int .i64 0,.int .i64 0,.slice none 0 0,.int .i64 0,.int .i64 0,.int .i64 0,.string ByteArray.empty,.slice none 0 0,.slice none 0 0]],[]⟩).memory Tryz.f5.params.toList Rows.verifyUnreachedSpec.vars false (#[.agg #[.string ByteArray.empty,.int .i64 0,.slice none 0 0,.slice none 0 0,.slice none 0 0,.slice none 0 0],.int .i64 0,.agg #[.int .i64 0,.int .i64 0,.int .i64 0,.slice none 0 0,.int .i64 0,.int .i64 0,.int .i64 0,.string ByteArray.empty,.slice none 0 0,.slice none 0 0]]:Array Value).toList 8=some (ds,[],places):=
 ⟨[.agg [.lit (.string []),.lit (.int .i64 0),.nil,.nil,.nil,.nil],.lit (.int .i64 0),.agg [.lit (.int .i64 0),.agg [.lit (.int .i64 0),.lit (.int .i64 0)],.nil,.lit (.int .i64 0),.lit (.int .i64 0),.lit (.int .i64 0),.lit (.string []),.nil,.nil]],[],by kernel_rfl⟩
theorem lifted (os:Os) (started:os.Started) (H:Type) (enc:TypeId × Value->H) (F:Stop.Interp):
  ReturnsInHanded {} Tryz.checked os 5 .any ((OpenSpec.ofChange Rows.verifyUnreachedSpec).preRow enc Tryz.prog Tryz.f5 Rows.verifyUnreachedRow.domain false Rows.verifyUnreachedRow.laid) (((OpenSpec.ofChange Rows.verifyUnreachedSpec).at F).post enc Tryz.prog Tryz.f5 false true false false):=by
 obtain⟨ds0,places,hx⟩:=reads os enc
 refine returnsInHanded_of_row (C:=Tryz.checked) (s:=OpenSpec.ofChange Rows.verifyUnreachedSpec) own started (by kernel_rfl) Tryz.func5
  (witness_row_atRef (enc:=enc) (C:=Tryz.checked) false (laidWorld os) #[.agg #[.string ByteArray.empty,.int .i64 0,.slice none 0 0,.slice none 0 0,.slice none 0 0,.slice none 0 0],.int .i64 0,.agg #[.int .i64 0,.int .i64 0,.int .i64 0,.slice none 0 0,.int .i64 0,.int .i64 0,.int .i64 0,.string ByteArray.empty,.slice none 0 0,.slice none 0 0]] rfl (by kernel_rfl) (by kernel_rfl) (by kernel_rfl)
   (OpenSpec.preRow_of_cond 8 hx (by kernel_rfl) (fun k hk=>by cases hk) (by kernel_rfl) (laid_met os))) ?_
 intro W base args ds gs before hval0 hW _ _ hsz hL _ _
 have hval: ∀(j:Nat) t v,Tryz.f5.params[j]?=some t->args[j]?=some v->Value.okWide Tryz.prog W .any base t v:=hval0
 have hW':=hW
 obtain⟨p,q,hA0,hV,rfl,hfz,hnd⟩:=hW
 have hA:DataW.TrodAll enc Tryz.prog W 0 (fun _=>true) true Tryz.f5.params.toList args.toList ds p:=hA0
 rw [Tryz.params5]at hA hval hsz
 obtain⟨v0,vs0,d0,ds0,p0,q0,hargs,rfl,rfl,h0,r0⟩:=trodAll_cons hA
 obtain⟨v1,vs1,d1,ds1,p1,q1,rfl,rfl,rfl,h1,r1⟩:=trodAll_cons r0
 obtain⟨v2,vs2,d2,ds2,p2,q2,rfl,rfl,rfl,h2,r2⟩:=trodAll_cons r1
 obtain⟨rfl,rfl,rfl⟩:=trodAll_nil r2
 obtain rfl:args=#[v0,v1,v2]:=by cases args;simp_all
 obtain⟨rfl,rfl⟩:=trodVars_none hV
 have k0:=h0
 have k1:=h1
 have k2:=h2
 obtain⟨u0,lo0,fo0,go0,co0,lc0,fc0,gc0,cc0,rfl,hup0,hnm0⟩:=open_unit (hval 0 27 v0 rfl rfl) h0 (wt_each _ _ hsz 0 _ _ rfl rfl)
 obtain⟨a1,rfl,rfl,rfl,w1⟩:=open_int Tryz.underlying3 (hval 1 3 v1 rfl rfl) h1
 obtain⟨z2,so2,zo2,zs2,sc2,zc2,zsc2,rfl,hz2,hzn2⟩:=open_instr (hval 2 47 v2 rfl rfl) h2 (wt_each _ _ hsz 2 _ _ rfl rfl)
 clear hA0 hval0
 simp only [List.append_nil,List.nil_append]at hW'
 refine(vunr_walk u0 lo0 fo0 go0 co0 lc0 fc0 gc0 cc0 a1 z2 so2 zo2 zs2 sc2 zc2 zsc2 W hup0 (rows_at hL (.tail _ (.tail _ (.head _)))) (space_at hL) (fun wx hx=>hz2.below hx) (fun x hx=>Nat.le_trans (hnm0 x hx) (by decide)) (Nat.le_trans hzn2 (by decide)) (bounds_i64 w1)).mono fun e W' ⟨he,bel⟩=>?_
 subst he
 exact⟨_,rfl,_,_,_,[],_,[],hW',trodAll_mk1 (shut_bool Tryz.underlying4 _),(trodAll_cons_mk (Below.trod laidOut (by kernel_rfl) (of_decide_eq_true (by kernel_rfl)) k0 bel (fun x hx=>by first|exact absurd hx List.not_mem_nil|simpa using hW'.lt x (by simp [hx]))) (trodAll_cons_mk (Below.trod laidOut (by kernel_rfl) (of_decide_eq_true (by kernel_rfl)) k1 bel (fun x hx=>by first|exact absurd hx List.not_mem_nil|simpa using hW'.lt x (by simp [hx]))) (trodAll_cons_mk (Below.trod laidOut (by kernel_rfl) (of_decide_eq_true (by kernel_rfl)) k2 bel (fun x hx=>by first|exact absurd hx List.not_mem_nil|simpa using hW'.lt x (by simp [hx]))) trodAll_mk0))),rfl,bel.frame _,fun h=>by cases h⟩
theorem said:Rows.VerifyUnreachedSaid:=
 OpenClaim.holds_of_cond 5 Tryz.f5 rfl rfl rfl rfl rfl rfl rfl ⟨rfl,rfl,rfl,rfl,rfl⟩ rfl rfl rfl rfl rfl (by kernel_rfl) Tryz.func5 (by kernel_rfl)
  (of_decide_eq_true (by kernel_rfl)) (by unfold Func.isWrapper;first|(rw [if_pos (by decide +kernel)];kernel_rfl)|(rw [if_neg (by decide +kernel)];exact⟨rfl,rfl⟩))
  (fun os started H enc _ F=>by rw [OpenClaim.pre_eq_preRow];exact lifted os started H enc F)
theorem plain (f:FuncId) (fn:Func) (hf:Tryz.pinned.checked.prog.funcNamed "stagehand/stagehandlaw18.VerifyUnreached" =some f) (hfn:Tryz.pinned.checked.prog.funcs[f]?=some fn):
  false=Tryz.pinned.checked.prog.looks []/\ ∀(j:Nat) t,fn.params[j]?=some t->Tryz.pinned.checked.prog.wantsStandIn t=false:=by
 obtain rfl:f=5:=Option.some.inj ((show Tryz.prog.funcNamed "stagehand/stagehandlaw18.VerifyUnreached" =some 5 by kernel_rfl).symm.trans hf) |>.symm
 obtain rfl:fn=Tryz.f5:=(Option.some.inj (Tryz.func5.symm.trans hfn)).symm
 refine⟨by kernel_rfl,fun j t ht=>?_⟩
 rw [Tryz.params5]at ht
 have hm:=Array.mem_of_getElem? ht
 have hc:t=27∨t=3∨t=47:=by simpa using hm
 rcases hc with rfl|rfl|rfl
 ·exact(show Tryz.prog.wantsStandIn 27=false by kernel_rfl)
 ·exact(show Tryz.prog.wantsStandIn 3=false by kernel_rfl)
 ·exact(show Tryz.prog.wantsStandIn 47=false by kernel_rfl)
theorem proved:Rows.VerifyUnreachedCardSaid:=
 Claim7.holds_tied_plain_at .later [] _ _ _ _ said (fun _ h=>by cases h) (by kernel_rfl) (fun _ h=>by cases h) verifyUnreached_row_tie rfl ⟨rfl,rfl⟩ (by kernel_rfl) rfl plain (by kernel_rfl)
#print axioms proved
end Go.Proofs.YtepjanajflkakaaGreatDoor
