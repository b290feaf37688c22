/- part 13 -/
import Derived.Test.YtepjanajflkakaaGreatDoorKnownAll07
namespace Go.Proofs.YtepjanajflkakaaGreatDoor
open Go.RowKit
set_option linter.unusedVariables false
set_option linter.unusedSimpArgs false
set_option maxRecDepth 100000
set_option maxHeartbeats 40000000
theorem vback_any (E U mb p k:Nat) (at':Int) (u:RUnit) (lo fo go co:Option Addr) (lc fc gc cc mc:Nat) (s:VSt) (M:Nat->Option VM) (cs:Array Value) (g:Nat->Nat) (w:World) (hx:VCx w E U mb at' u lo fo go co lc fc gc cc mc) (hm:MeetAt w mb u.code.length M cs g) (hs:StAt w p s) (ls:VLen s) (hk:k<u.code.length) (hv: ∀m,M k=some m->VLen m.st):
  Calls Tryz.prog 102 #[.pointer (some ⟨E,0,none⟩),.pointer (some ⟨p,0,none⟩),.int .i64 k] w fun e w'=>e= .returned (.int .i64 (if backB (stM M k) s=true then 184 else 0))/\ ∃n,w'=w.drewN n:=by
 obtain⟨pv,av,wv,f0,f1,f2,h1⟩:=hm.one k hk
 have e1:=hx.e1
 have q0:w.cell? ⟨mb,k*3,none⟩=some pv:=by rw [cell_of_row _ _ _ _ _ _ hm.row];exact f0
 obtain⟨xo,xc,yo,yc,to',tc,c0,c1,c2,c3,c4,c5,c6,hL⟩:=hs.cells
 have hT:=Lib.hid hL.t
 have l1:=ls.t
 have hkz:(0:Int)<=(k:Int):=by omega
 have hkl:(k:Int)<(u.code.length:Int):=by omega
 have hmk:M k=M k:=rfl
 revert hmk
 generalize hMk:M k=mo at h1
 intro _
 have hv':=fun m h=>hv m (hMk.trans h)
 have hR:backB (stM M k) s=backB (mo.map VM.st) s:=by unfold stM;rw [hMk]
 rw [hR]
 obtain⟨V,hV⟩: ∃V:Int,V=(if backB (mo.map VM.st) s=true then 184 else 0):=⟨_,rfl⟩
 rw [<-hV]
 have HV:=Lib.hid hV
 clear hV
 clear c1 c2 c4 c5 hm hx hs ls f0 f1 f2 hL hv hMk hR
 cases mo with
 |none=>
  obtain⟨rfl,-,-⟩:=h1
  have HR:Hid (V=184):=Lib.hid (by rw [HV.out];rfl)
  clear HV
  clear c0 c3 c6
  go_in
  go_wp2_with fail
  go_quiet ((first|(exact Calls.quiet_of_same (when_any _ _ _))))
  go_wp2_with fail
  go_ret
  exact⟨ret_i HR.out.symm,by first|exact⟨_,rfl⟩|(simp only [World.drewN_drewN];exact⟨_,rfl⟩)⟩
 |some m=>
  obtain⟨⟨b,rfl,hb⟩,-,-⟩:=h1
  obtain⟨xo2,xc2,yo2,yc2,to2,tc2,d0,d1,d2,d3,d4,d5,d6,hL2⟩:=hb.cells
  have hT2:=Lib.hid hL2.t
  have l2:=(hv' m rfl).t
  have E:Hid (V=if m.st.frame≠s.frame∨m.st.frm≠s.frm∨m.st.tries≠s.tries then 184 else 0):=Lib.hid (by rw [HV.out];unfold backB;simp)
  unfold ptrV at q0
  clear d1 d2 d4 d5 hL2 hb hv'
  clear HV
  generalize s.frame=a1 at *;generalize m.st.frame=a2 at *
  generalize s.frm=g1 at *;generalize m.st.frm=g2 at *
  generalize s.tries=t1 at *;generalize m.st.tries=t2 at *
  by_cases h1:a2=a1
  ·have b1:=stEq h1
   by_cases h2:g2=g1
   ·have b2:=stEq h2
    have hE: ∀wx:World,wx.heap=w.heap->Calls Tryz.prog 129 #[.slice to2 t2.length tc2,.slice to' t1.length tc] wx fun e w'=>e= .returned (.bool (decide (t2=t1)))/\ ∃q,w'=wx.drewN q:=fun wx hx=>equal_any t2 t1 to2 to' tc2 tc wx (hT2.out.heap hx) (hT.out.heap hx) l2 l1
    have HR:Hid (V=if(!decide (t2=t1))=true then 184 else 0):=Lib.hid (by rw [E.out];simp [h1,h2])
    generalize decide (t2=t1)=bb at *
    have HE:=Lib.hid hE
    clear hE h1 h2 E
    cases bb
    all_goals
     go_in
     go_wp2_with fail
     go_quiet ((first|(exact Calls.quiet_of_same (when_any _ _ _))|(refine Calls.quiet_of (HE.out _ ?_);rfl)))
     go_wp2_with fail
     all_goals
      go_ret
      exact⟨ret_i HR.out.symm,by first|exact⟨_,rfl⟩|(simp only [World.drewN_drewN];exact⟨_,rfl⟩)⟩
   ·have b2:=stNe h2
    have HR:Hid (V=184):=Lib.hid (by rw [E.out];simp [h2])
    clear h1 h2 E
    go_in
    go_wp2_with fail
    go_quiet ((first|(exact Calls.quiet_of_same (when_any _ _ _))))
    go_wp2_with fail
    go_ret
    exact⟨ret_i HR.out.symm,by first|exact⟨_,rfl⟩|(simp only [World.drewN_drewN];exact⟨_,rfl⟩)⟩
  ·have b1:=stNe h1
   have HR:Hid (V=184):=Lib.hid (by rw [E.out];simp [h1])
   clear h1 E
   go_in
   go_wp2_with fail
   go_quiet ((first|(exact Calls.quiet_of_same (when_any _ _ _))))
   go_wp2_with fail
   go_ret
   exact⟨ret_i HR.out.symm,by first|exact⟨_,rfl⟩|(simp only [World.drewN_drewN];exact⟨_,rfl⟩)⟩
theorem vhits_any (a t k:Int) (B:Nat) (w:World) (hB:B<w.heap.size) (hk:w.cell? ⟨B,0,none⟩=some (.int .i64 k)):
  Calls Tryz.prog 101 #[.agg #[.int .i64 a,.int .i64 t],.pointer (some ⟨B,0,none⟩)] w fun e w'=>e= .returned (.bool (t==k))/\Below w.heap.size w w':=by
 have hb0:=(Below.refl w.heap.size w).alloc (Nat.le_refl _) (.cells #[.int .i64 a,.int .i64 t] 111)
 have k1:=(hb0.cell (p:=⟨B,0,none⟩) hB).trans hk
 have HB:=Lib.hid hb0
 clear hb0
 go_in
 go_wp2_with fail
 go_ret
 exact⟨rfl,HB.out⟩
def caseTo (k:Int) (c:RCase):Bool:=c.to==k
theorem vindex_any (cs:List RCase) (co:Option Addr) (cc:Nat) (k:Int) (B:Nat) (w:World) (hB:B<w.heap.size) (hk:w.cell? ⟨B,0,none⟩=some (.int .i64 k)) (hc:SlAt w 2 CaseR co cs) (hl:cs.length<=1000):
  Calls Tryz.prog 142 #[.slice co cs.length cc,.func (.func 101) #[] #[.pointer (some ⟨B,0,none⟩)]] w fun e w'=>(∃r:Int,e= .returned (.int .i64 r)/\Hid (decide (0<=r)=cs.any (caseTo k)))/\Below w.heap.size w w':=by
 have HC:=Lib.hid hc;have HK:=Lib.hid hk
 clear hc hk
 obtain⟨m,hm⟩: ∃m,m=cs.length:=⟨_,rfl⟩
 rw [<-hm]at hl ⊢
 have HM:=Lib.hid hm
 clear hm
 go_in
 go_wp2_with fail
 go_loopw [8] (fun iv wr=> ∃j:Nat,j<=m/\iv= .int .i64 j/\Hid (cs.any (caseTo k)=(cs.drop j).any (caseTo k))/\Hid (Below w.heap.size w wr)) (fun iv _=>m-(intOf iv).toNat)
 case atStart=>exact⟨0,Nat.zero_le _,rfl,Lib.hid (by rw [List.drop_zero]),Lib.hid (Below.refl _ _)⟩
 case round=>
  obtain⟨j,hj,rfl,HA,HF⟩:=hrel
  rename World=>wr
  by_cases hlt:j<m
  ·have hjx:j<cs.length:=by rw [<-HM.out];exact hlt
   obtain⟨cb,cf,hco,hcb,q0,q1,-,-⟩:=(HC.out.mono HF.out (fun _ _ h=>h)).case hjx
   subst hco
   have hd:(cs.drop j).any (caseTo k)=((cs[j].to==k)||(cs.drop (j+1)).any (caseTo k)):=by rw [List.drop_eq_getElem_cons hjx,List.any_cons];rfl
   have HD:=Lib.hid hd
   clear hd
   have hcal:=vhits_any cs[j].lit cs[j].to k B wr (Nat.lt_of_lt_of_le hB HF.out.size) ((HF.out.cell (p:=⟨B,0,none⟩) hB).trans HK.out)
   generalize cs[j].lit=a at *
   generalize cs[j].to=t at *
   have HCA:=Lib.hid hcal
   have hI0:(0:Int)<=(j:Int):=by omega
   have hI1:(j:Int)<(m:Int):=by omega
   clear hcal
   generalize(t==k)=b at *
   cases b with
   |true=>
    have E:Hid (decide ((0:Int)<=(j:Int))=cs.any (caseTo k)):=Lib.hid (by rw [HA.out,HD.out,decide_eq_true hI0];rfl)
    clear HA HD
    go_wp2_with fail
    refine HCA.out.mono ?_
    rintro e w1 ⟨rfl,hb1⟩
    have HB1:=Lib.hid (HF.out.trans (hb1.mono HF.out.size))
    clear hb1
    go_wp2_with fail
    go_ret
    exact⟨⟨_,rfl,E⟩,HB1.out⟩
   |false=>
    have E:Hid (cs.any (caseTo k)=(cs.drop (j+1)).any (caseTo k)):=Lib.hid (by rw [HA.out,HD.out];rfl)
    clear HA HD
    go_wp2_with fail
    refine HCA.out.mono ?_
    rintro e w1 ⟨rfl,hb1⟩
    have HB1:=Lib.hid (HF.out.trans (hb1.mono HF.out.size))
    clear hb1
    go_wp2_with fail
    go_roundw
    case rel=>exact⟨j+1,by omega,by go_num,E,HB1⟩
    case measure=>simp [intOf];omega
  ·obtain rfl:j=m:=by omega
   have E:Hid (decide ((0:Int)<= -1)=cs.any (caseTo k)):=Lib.hid (by rw [HA.out,List.drop_eq_nil_of_le (Nat.le_of_eq HM.out.symm)];rfl)
   clear HA
   go_wp2_with fail
   go_ret
   exact⟨⟨_,rfl,E⟩,HF.out⟩
theorem vcontains_any (cs:List RCase) (co:Option Addr) (cc:Nat) (k:Int) (B:Nat) (w:World) (hB:B<w.heap.size) (hk:w.cell? ⟨B,0,none⟩=some (.int .i64 k)) (hc:SlAt w 2 CaseR co cs) (hl:cs.length<=1000):
  Calls Tryz.prog 100 #[.slice co cs.length cc,.func (.func 101) #[] #[.pointer (some ⟨B,0,none⟩)]] w fun e w'=>e= .returned (.bool (cs.any (caseTo k)))/\Below w.heap.size w w':=by
 have H:=Lib.hid (vindex_any cs co cc k B w hB hk hc hl)
 clear hc hk hl
 generalize cs.any (caseTo k)=R at *
 go_in
 go_wp2_with fail
 refine H.out.mono ?_
 rintro e w1 ⟨⟨r,rfl,HR⟩,hb1⟩
 have HB:=Lib.hid hb1
 clear hb1 H
 go_wp2_with fail
 go_ret
 exact⟨retb HR.out,HB.out⟩
end Go.Proofs.YtepjanajflkakaaGreatDoor
