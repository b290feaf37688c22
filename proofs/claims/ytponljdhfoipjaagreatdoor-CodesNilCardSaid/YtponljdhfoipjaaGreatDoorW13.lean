import Derived.Test.YtponljdhfoipjaaGreatDoorW07
import Derived.Test.YtponljdhfoipjaaGreatDoorW09
namespace Go.Proofs.YtponljdhfoipjaaGreatDoor
open Go.RowKit
set_option linter.unusedVariables false
set_option linter.unusedSimpArgs false
set_option maxRecDepth 100000
set_option maxHeartbeats 0
theorem vcopied_any (f:Nat) (u:RUnit) (lo fo go co:zzA) (lc fc gc cc:Nat) (w:World) (h:UP w u lo fo go co) (hd:SlAt w 9 (TmAt w f) lo u.lits) (hcap:sumN (u.lits.map (capF f))+u.lits.length<=1000000) (hl:LenB u):
  Calls Tryz.prog 32 #[.agg #[.string u.mdl,.int .i64 u.vsn,.slice lo u.lits.length lc,.slice fo u.funcs.length fc,.slice go u.funs.length gc,.slice co u.code.length cc]] w fun e w'=>(∃lo' lc' fo' fc' go' gc' co' cc',e= .returned (.agg #[.string u.mdl,.int .i64 u.vsn,.slice lo' u.lits.length lc',.slice fo' u.funcs.length fc',.slice go' u.funs.length gc',.slice co' u.code.length cc'])/\UNew w' f w.heap.size w'.heap.size u lo' fo' go' co')/\Below w.heap.size w w':=by
 obtain⟨e0,e1,eb,es⟩:=two_new w (.cells #[.string u.mdl,.int .i64 u.vsn,.slice lo u.lits.length lc,.slice fo u.funcs.length fc,.slice go u.funs.length gc,.slice co u.code.length cc] 31) (.cells #[.string ⟨#[]⟩,.int .i64 0,.slice none 0 0,.slice none 0 0,.slice none 0 0,.slice none 0 0] 31)
 refine zzK8 e0 e1 eb es h hd hcap hl fun HE0 HE1 HB HSZ HUP HD HCAP HLN=>?_
 have hll:u.lits.length<=1000000:=by omega
 clear e0 e1 eb es h hd hcap hl
 go_in
 go_upto_region 1 with fail
 generalize(w.alloc _).alloc _=W at *
 have hcl:=cloneTerm (R:=TmAt w f) tmAt_one u.lits lo lc W (HD.out.mono HB.out fun _ _ h=>h) (by omega)
 have hupw:UP w u lo fo go co:=HUP.out
 have HCL:=Lib.hid hcl
 clear hcl hupw
 have hN0:w.heap.size=w.heap.size:=rfl
 generalize hN:w.heap.size=N at *
 have HN:=Lib.hid hN
 clear hN hN0
 have c2:W.cell? ⟨N,2,none⟩=some (.slice lo u.lits.length lc):=by rw [cell_of_row _ _ _ _ _ _ HE0.out];rfl
 go_upto_region 2 with(go_at_call 42;refine HCL.out.mono ?_;rintro e w2 ⟨⟨lo1,lc1,rfl,hsl⟩,hb2⟩;have g2:w2.cell? ⟨N,2,none⟩=some (.slice lo u.lits.length lc):=(hb2.cell (p:=⟨N,2,none⟩) (lt_of_row HE0.out)).trans c2;have f2:w2.frozen? ⟨N,2,none⟩=false:=frozen_of_row _ _ 2 _ _ ((hb2.block _ (lt_of_row HE0.out)).trans HE0.out))
 have r0:=heap_setCell_same w2 N 2 _ _ (.slice lo1 u.lits.length lc1) ((hb2.block _ (lt_of_row HE0.out)).trans HE0.out)
 have r1:=(heap_setCell_other w2 ⟨N,2,none⟩ (N+1) (.slice lo1 u.lits.length lc1) (by simp)).trans ((hb2.block _ (lt_of_row HE1.out)).trans HE1.out)
 have hbn:Below N w (w2.setCell ⟨N,2,none⟩ (.slice lo1 u.lits.length lc1)):=(HB.out.trans (hb2.mono (by have:=HSZ.out;omega))).setCell (Nat.le_refl _) _
 have hsl3:=hsl.kept (w':=w2.setCell ⟨N,2,none⟩ (.slice lo1 u.lits.length lc1)) (fun b hb _=>heap_setCell_other _ _ _ _ (by show b≠N;have:=HSZ.out;omega)) (Nat.le_refl _) (Nat.le_refl _) fun _ _ _ _ _ _ h=>h
 rw [HSZ.out]at hsl3
 have hli:=LitI.start hsl3
 generalize w2.setCell ⟨N,2,none⟩ (.slice lo1 u.lits.length lc1)=w3 at *
 replace r0:w3.heap[N]?=some (.cells #[.string u.mdl,.int .i64 u.vsn,.slice lo1 u.lits.length lc1,.slice fo u.funcs.length fc,.slice go u.funs.length gc,.slice co u.code.length cc] 31 (0,0)):=r0
 have c2':w3.cell? ⟨N,2,none⟩=some (.slice lo1 u.lits.length lc1):=by rw [cell_of_row _ _ _ _ _ _ r0];rfl
 refine zzK4 r0 r1 hbn hli fun HR0 HR1 HBN HLI=>?_
 clear r0 r1 hbn hli hsl3 hsl hb2 g2 f2 c2
 go_wp2_with fail
 go_loopw [13] (fun iv wr=> ∃k:Nat,k<=u.lits.length/\iv= .int .i64 k/\Hid (wr.heap[N]?=some (.cells #[.string u.mdl,.int .i64 u.vsn,.slice lo1 u.lits.length lc1,.slice fo u.funcs.length fc,.slice go u.funs.length gc,.slice co u.code.length cc] 31 (0,0)))/\Hid (wr.heap[N+1]?=some (.cells #[.string ⟨#[]⟩,.int .i64 0,.slice none 0 0,.slice none 0 0,.slice none 0 0,.slice none 0 0] 31 (0,0)))/\Hid (LitI f N w u.lits lo1 k wr)/\Hid (Below N w wr)) (fun i _=>u.lits.length-(intOf i).toNat)
 case atStart=>exact⟨0,Nat.zero_le _,rfl,HR0,HR1,HLI,HBN⟩
 case round=>
  obtain⟨k,hk,rfl,HR,HZ,HL,HBN⟩:=hrel
  rename World=>wr
  clear HR0 HR1 HLI c2'
  by_cases hlt:k<u.lits.length
  ·obtain⟨g,arr,so,c,f',hff,hlo,hgN,hg,ha,hq,hs,hok⟩:=HL.out.next hlt
   subst hlo
   subst hff
   have hct:capF (f'+1) u.lits[k]<=1000000:=by have:=cap_mem (f:=f'+1) (List.getElem_mem hlt);have:=HCAP.out;omega
   obtain⟨t,ht⟩: ∃t,t=u.lits[k]:=⟨_,rfl⟩
   rw [<-ht]at hq hs hok hct
   refine zzK3 hg ht hok fun HG HT HOK=>?_
   have c2:wr.cell? ⟨N,2,none⟩=some (.slice (some ⟨g,0,none⟩) u.lits.length lc1):=by rw [cell_of_row _ _ _ _ _ _ HR.out];rfl
   have q0:wr.cell? ⟨g,k*9,none⟩=some (.int .i64 t.kind):=(hq 0 (by decide))
   have q1:wr.cell? ⟨g,k*9+1,none⟩=some (.int .i64 t.int):=(hq 1 (by decide))
   have q2:wr.cell? ⟨g,k*9+2,none⟩=some (.int .i64 t.gen):=(hq 2 (by decide))
   have q3:wr.cell? ⟨g,k*9+3,none⟩=some (.string t.name):=(hq 3 (by decide))
   have q4:wr.cell? ⟨g,k*9+4,none⟩=some (.string t.func):=(hq 4 (by decide))
   have q5:wr.cell? ⟨g,k*9+5,none⟩=some (.int .i64 t.arity):=(hq 5 (by decide))
   have q6:wr.cell? ⟨g,k*9+6,none⟩=some (.slice so t.items.length c):=(hq 6 (by decide))
   have q7:wr.cell? ⟨g,k*9+7,none⟩=some (.string t.bytes):=(hq 7 (by decide))
   have q8:wr.cell? ⟨g,k*9+8,none⟩=some (.int .i64 t.bits):=(hq 8 (by decide))
   have hcp:=copy_any f' t so c wr.drew (hs.mono (HN.out▸HBN.out.drew) fun _ _ h=>h.below (HN.out▸HBN.out.drew)) hok hct
   have HCP:=Lib.hid hcp
   clear hcp hs hok hct hq hg ht
   go_upto_region 5 with fail
   have K1:Hid (wr.drew.cell? ⟨N,2,none⟩=some (.slice (some ⟨g,0,none⟩) u.lits.length lc1)/\wr.drew.cell? ⟨g,k*9,none⟩=some (.int .i64 t.kind)/\wr.drew.cell? ⟨g,k*9+1,none⟩=some (.int .i64 t.int)/\wr.drew.cell? ⟨g,k*9+2,none⟩=some (.int .i64 t.gen)/\wr.drew.cell? ⟨g,k*9+3,none⟩=some (.string t.name)/\wr.drew.cell? ⟨g,k*9+4,none⟩=some (.string t.func)/\wr.drew.cell? ⟨g,k*9+5,none⟩=some (.int .i64 t.arity)/\wr.drew.cell? ⟨g,k*9+6,none⟩=some (.slice so t.items.length c)/\wr.drew.cell? ⟨g,k*9+7,none⟩=some (.string t.bytes)/\wr.drew.cell? ⟨g,k*9+8,none⟩=some (.int .i64 t.bits)):=Lib.hid ⟨by simpa using c2,by simpa using q0,by simpa using q1,by simpa using q2,by simpa using q3,by simpa using q4,by simpa using q5,by simpa using q6,by simpa using q7,by simpa using q8⟩
   refine wp_region_P 10 (fun w'=>True) (fun w'=>w'.cell? ⟨N,2,none⟩=some (.slice (some ⟨g,0,none⟩) u.lits.length lc1)/\w'.cell? ⟨g,k*9,none⟩=some (.int .i64 t.kind)/\w'.cell? ⟨g,k*9+1,none⟩=some (.int .i64 t.int)/\w'.cell? ⟨g,k*9+2,none⟩=some (.int .i64 t.gen)/\w'.cell? ⟨g,k*9+3,none⟩=some (.string t.name)/\w'.cell? ⟨g,k*9+4,none⟩=some (.string t.func)/\w'.cell? ⟨g,k*9+5,none⟩=some (.int .i64 t.arity)/\w'.cell? ⟨g,k*9+6,none⟩=some (.slice so t.items.length c)/\w'.cell? ⟨g,k*9+7,none⟩=some (.string t.bytes)/\w'.cell? ⟨g,k*9+8,none⟩=some (.int .i64 t.bits)) (by kernel_rfl) ⟨trivial,K1.out⟩ (fun hHeld=>?_)
   refine wpAnyP_lateA 0 hHeld ?_
   simp only [Act.put,List.setIfInBounds_toArray,List.set_cons_zero,List.set_cons_succ,List.getElem_toArray,List.getElem_cons_zero,List.getElem_cons_succ]
   refine wpAnyP_earlyA [] 1 hHeld ?_
   simp only [Act.put,List.setIfInBounds_toArray,List.set_cons_zero,List.set_cons_succ,List.getElem_toArray,List.getElem_cons_zero,List.getElem_cons_succ]
   refine wpAnyP_lateA 2 hHeld ?_
   simp only [Act.put,List.setIfInBounds_toArray,List.set_cons_zero,List.set_cons_succ,List.getElem_toArray,List.getElem_cons_zero,List.getElem_cons_succ]
   refine wpAnyP_lateA 3 hHeld ?_
   simp only [Act.put,List.setIfInBounds_toArray,List.set_cons_zero,List.set_cons_succ,List.getElem_toArray,List.getElem_cons_zero,List.getElem_cons_succ]
   refine wpAnyP_earlyA [] 4 hHeld ?_
   simp only [Act.put,List.setIfInBounds_toArray,List.set_cons_zero,List.set_cons_succ,List.getElem_toArray,List.getElem_cons_zero,List.getElem_cons_succ]
   refine wpAnyP_lateA 5 hHeld ?_
   simp only [Act.put,List.setIfInBounds_toArray,List.set_cons_zero,List.set_cons_succ,List.getElem_toArray,List.getElem_cons_zero,List.getElem_cons_succ]
   refine wpAnyP_lateA 6 hHeld ?_
   simp only [Act.put,List.setIfInBounds_toArray,List.set_cons_zero,List.set_cons_succ,List.getElem_toArray,List.getElem_cons_zero,List.getElem_cons_succ]
   refine wpAnyP_earlyA [] 7 hHeld ?_
   simp only [Act.put,List.setIfInBounds_toArray,List.set_cons_zero,List.set_cons_succ,List.getElem_toArray,List.getElem_cons_zero,List.getElem_cons_succ]
   refine wpAnyP_oneA 8 fun KK hK=>?_
   go_simp
   refine HCP.out.mono ?_
   rintro e w5 ⟨⟨so',c',rfl,hs5⟩,hb5⟩
   have hbr:Below wr.heap.size wr w5:=(Below.refl wr.heap.size wr).drew.trans hb5
   have hr5:=(hbr.block _ (lt_of_row HG.out)).trans HG.out
   have K5:Hid (w5.cell? ⟨N,2,none⟩=some (.slice (some ⟨g,0,none⟩) u.lits.length lc1)/\w5.cell? ⟨g,k*9,none⟩=some (.int .i64 t.kind)/\w5.cell? ⟨g,k*9+1,none⟩=some (.int .i64 t.int)/\w5.cell? ⟨g,k*9+2,none⟩=some (.int .i64 t.gen)/\w5.cell? ⟨g,k*9+3,none⟩=some (.string t.name)/\w5.cell? ⟨g,k*9+4,none⟩=some (.string t.func)/\w5.cell? ⟨g,k*9+5,none⟩=some (.int .i64 t.arity)/\w5.cell? ⟨g,k*9+6,none⟩=some (.slice so t.items.length c)/\w5.cell? ⟨g,k*9+7,none⟩=some (.string t.bytes)/\w5.cell? ⟨g,k*9+8,none⟩=some (.int .i64 t.bits)):=Lib.hid ⟨(hbr.cell (p:=⟨N,2,none⟩) (lt_of_row HR.out)).trans c2,(hbr.cell (p:=⟨g,k*9,none⟩) (lt_of_row HG.out)).trans q0,(hbr.cell (p:=⟨g,k*9+1,none⟩) (lt_of_row HG.out)).trans q1,(hbr.cell (p:=⟨g,k*9+2,none⟩) (lt_of_row HG.out)).trans q2,(hbr.cell (p:=⟨g,k*9+3,none⟩) (lt_of_row HG.out)).trans q3,(hbr.cell (p:=⟨g,k*9+4,none⟩) (lt_of_row HG.out)).trans q4,(hbr.cell (p:=⟨g,k*9+5,none⟩) (lt_of_row HG.out)).trans q5,(hbr.cell (p:=⟨g,k*9+6,none⟩) (lt_of_row HG.out)).trans q6,(hbr.cell (p:=⟨g,k*9+7,none⟩) (lt_of_row HG.out)).trans q7,(hbr.cell (p:=⟨g,k*9+8,none⟩) (lt_of_row HG.out)).trans q8⟩
   refine zzK3 hr5 hbr hs5 fun HR5 HBR HS5=>?_
   have x0:=K5.out.2.1
   have z0:=frozen_of_row _ _ (k*9) _ _ HR5.out
   have x1:=K5.out.2.2.1
   have z1:=frozen_of_row _ _ (k*9+1) _ _ HR5.out
   have x2:=K5.out.2.2.2.1
   have z2:=frozen_of_row _ _ (k*9+2) _ _ HR5.out
   have x3:=K5.out.2.2.2.2.1
   have z3:=frozen_of_row _ _ (k*9+3) _ _ HR5.out
   have x4:=K5.out.2.2.2.2.2.1
   have z4:=frozen_of_row _ _ (k*9+4) _ _ HR5.out
   have x5:=K5.out.2.2.2.2.2.2.1
   have z5:=frozen_of_row _ _ (k*9+5) _ _ HR5.out
   have x6:=K5.out.2.2.2.2.2.2.2.1
   have z6:=frozen_of_row _ _ (k*9+6) _ _ HR5.out
   have x7:=K5.out.2.2.2.2.2.2.2.2.1
   have z7:=frozen_of_row _ _ (k*9+7) _ _ HR5.out
   have x8:=K5.out.2.2.2.2.2.2.2.2.2
   have z8:=frozen_of_row _ _ (k*9+8) _ _ HR5.out
   clear hb5 hr5 hbr hs5
   refine hK.out _ _ ⟨trivial,K5.out⟩ ?_
   clear hK KK
   try simp only [Act.put,List.setIfInBounds_toArray,List.set_cons_zero,List.set_cons_succ,List.getElem_toArray,List.getElem_cons_zero,List.getElem_cons_succ]
   refine wpAnyP_lateA 9 ⟨trivial,K5.out⟩ ?_
   simp only [Act.put,List.setIfInBounds_toArray,List.set_cons_zero,List.set_cons_succ,List.getElem_toArray,List.getElem_cons_zero,List.getElem_cons_succ]
   refine wpAnyP_endA 10 fun KK hK=>?_
   go_simp
   refine hK.out _ _ trivial ?_
   clear hK KK
   try simp only [Act.put,List.setIfInBounds_toArray,List.set_cons_zero,List.set_cons_succ,List.getElem_toArray,List.getElem_cons_zero,List.getElem_cons_succ]
   refine wpAnyP_done (by kernel_rfl) ?_ _
   generalize hw7:World.setCell _ _ _=w7
   have hw7':w7=setL g (tmRow t so' c') (k*9) w5:=hw7.symm
   have hst:=HL.out.step (so:=so') (c:=c') hlt (by have:=lt_of_row HZ.out;omega) HBR.out (by rw [<-HT.out];exact HS5.out.kept (fun _ _ _=>rfl) (Nat.le_refl _) (Nat.le_refl _) fun _ _ _ _ _ _ h=>h) (by rw [<-HT.out];exact HOK.out)
   rw [<-HT.out,<-hw7']at hst
   have hn7:w7.heap[N]?=some (.cells #[.string u.mdl,.int .i64 u.vsn,.slice (some ⟨g,0,none⟩) u.lits.length lc1,.slice fo u.funcs.length fc,.slice go u.funs.length gc,.slice co u.code.length cc] 31 (0,0)):=by rw [hw7',setL_other (by omega)];exact(HBR.out.block _ (lt_of_row HR.out)).trans HR.out
   have hn8:w7.heap[N+1]?=some (.cells #[.string ⟨#[]⟩,.int .i64 0,.slice none 0 0,.slice none 0 0,.slice none 0 0,.slice none 0 0] 31 (0,0)):=by rw [hw7',setL_other (by omega)];exact(HBR.out.block _ (lt_of_row HZ.out)).trans HZ.out
   have hbw:Below N w w7:=by rw [hw7'];exact setL_low (by omega) _ _ _ (HBN.out.trans (HBR.out.mono (by have:=lt_of_row HR.out;omega)))
   clear hw7 hw7'
   refine zzK4 hn7 hn8 hst hbw fun H7 H8 HST HBW=>?_
   clear hn7 hn8 hst hbw K5 K1 hHeld x0 x1 x2 x3 x4 x5 x6 x7 x8 z0 z1 z2 z3 z4 z5 z6 z7 z8 q0 q1 q2 q3 q4 q5 q6 q7 q8
   go_wp2_with fail
   go_roundw
   case rel=>exact⟨k+1,by omega,by go_num,H7,H8,HST,HBW⟩
   case measure=>simp [intOf];omega
  ·have hkl:k=u.lits.length:=by omega
   subst hkl
   have hL:=HL.out.stop
   have c3:wr.cell? ⟨N,3,none⟩=some (.slice fo u.funcs.length fc):=by rw [cell_of_row _ _ _ _ _ _ HR.out];rfl
   have c4:wr.cell? ⟨N,4,none⟩=some (.slice go u.funs.length gc):=by rw [cell_of_row _ _ _ _ _ _ HR.out];rfl
   have c5:wr.cell? ⟨N,5,none⟩=some (.slice co u.code.length cc):=by rw [cell_of_row _ _ _ _ _ _ HR.out];rfl
   have HLS:=Lib.hid hL;have HBM:Hid (Below w.heap.size w wr):=Lib.hid (by rw [HN.out];exact HBN.out)
   clear hL HL
   go_upto_region 7 with fail
   have K1:Hid (wr.drew.cell? ⟨N,3,none⟩=some (.slice fo u.funcs.length fc)/\wr.drew.cell? ⟨N,4,none⟩=some (.slice go u.funs.length gc)/\wr.drew.cell? ⟨N,5,none⟩=some (.slice co u.code.length cc)):=Lib.hid ⟨by simpa using c3,by simpa using c4,by simpa using c5⟩
   refine wp_region_P 10 (fun w'=>True) (fun w'=>w'.cell? ⟨N,3,none⟩=some (.slice fo u.funcs.length fc)/\w'.cell? ⟨N,4,none⟩=some (.slice go u.funs.length gc)/\w'.cell? ⟨N,5,none⟩=some (.slice co u.code.length cc)) (by kernel_rfl) ⟨trivial,K1.out⟩ (fun hHeld=>?_)
   refine wpAnyP_lateA 0 hHeld ?_
   simp only [Act.put,List.setIfInBounds_toArray,List.set_cons_zero,List.set_cons_succ,List.getElem_toArray,List.getElem_cons_zero,List.getElem_cons_succ]
   refine wpAnyP_earlyA [] 1 hHeld ?_
   simp only [Act.put,List.setIfInBounds_toArray,List.set_cons_zero,List.set_cons_succ,List.getElem_toArray,List.getElem_cons_zero,List.getElem_cons_succ]
   refine wpAnyP_lateA 3 hHeld ?_
   simp only [Act.put,List.setIfInBounds_toArray,List.set_cons_zero,List.set_cons_succ,List.getElem_toArray,List.getElem_cons_zero,List.getElem_cons_succ]
   refine wpAnyP_earlyA [] 4 hHeld ?_
   simp only [Act.put,List.setIfInBounds_toArray,List.set_cons_zero,List.set_cons_succ,List.getElem_toArray,List.getElem_cons_zero,List.getElem_cons_succ]
   refine wpAnyP_lateA 6 hHeld ?_
   simp only [Act.put,List.setIfInBounds_toArray,List.set_cons_zero,List.set_cons_succ,List.getElem_toArray,List.getElem_cons_zero,List.getElem_cons_succ]
   refine wpAnyP_earlyA [] 7 hHeld ?_
   simp only [Act.put,List.setIfInBounds_toArray,List.set_cons_zero,List.set_cons_succ,List.getElem_toArray,List.getElem_cons_zero,List.getElem_cons_succ]
   refine wpAnyP_oneA 2 fun KK hK=>?_
   go_simp
   refine(cloneFunc funcR_one u.funcs fo fc _ (HUP.out.funcs.mono (Below.trans HBM.out (Below.mono ((Below.refl wr.heap.size wr).drew) HBM.out.size)) fun _ _ h=>h) HLN.out.1).mono ?_
   rintro e w6 ⟨⟨fo1,fc1,rfl,hsw6⟩,hbw6⟩
   have hbrw6:Below wr.heap.size wr w6:=((Below.refl wr.heap.size wr).drew).trans hbw6
   have Kw6:Hid (w6.cell? ⟨N,3,none⟩=some (.slice fo u.funcs.length fc)/\w6.cell? ⟨N,4,none⟩=some (.slice go u.funs.length gc)/\w6.cell? ⟨N,5,none⟩=some (.slice co u.code.length cc)):=Lib.hid ⟨(hbrw6.cell (p:=⟨N,3,none⟩) (lt_of_row HR.out)).trans c3,(hbrw6.cell (p:=⟨N,4,none⟩) (lt_of_row HR.out)).trans c4,(hbrw6.cell (p:=⟨N,5,none⟩) (lt_of_row HR.out)).trans c5⟩
   refine zzK3 hsw6 hbw6 hbrw6 fun HSw6 HBw6 HBRw6=>?_
   clear hsw6 hbw6 hbrw6
   refine hK.out _ _ ⟨trivial,Kw6.out⟩ ?_
   clear hK KK
   try simp only [Act.put,List.setIfInBounds_toArray,List.set_cons_zero,List.set_cons_succ,List.getElem_toArray,List.getElem_cons_zero,List.getElem_cons_succ]
   refine wpAnyP_lateA 9 ⟨trivial,Kw6.out⟩ ?_
   simp only [Act.put,List.setIfInBounds_toArray,List.set_cons_zero,List.set_cons_succ,List.getElem_toArray,List.getElem_cons_zero,List.getElem_cons_succ]
   refine wpAnyP_oneA 5 fun KK hK=>?_
   go_simp
   refine(cloneFun funR_one u.funs go gc _ (HUP.out.funs.mono (Below.trans HBM.out (HBRw6.out.mono HBM.out.size)) fun _ _ h=>h) HLN.out.2.1).mono ?_
   rintro e w7 ⟨⟨go1,gc1,rfl,hsw7⟩,hbw7⟩
   have hbrw7:Below wr.heap.size wr w7:=HBRw6.out.trans (hbw7.mono HBRw6.out.size)
   have Kw7:Hid (w7.cell? ⟨N,3,none⟩=some (.slice fo u.funcs.length fc)/\w7.cell? ⟨N,4,none⟩=some (.slice go u.funs.length gc)/\w7.cell? ⟨N,5,none⟩=some (.slice co u.code.length cc)):=Lib.hid ⟨(hbrw7.cell (p:=⟨N,3,none⟩) (lt_of_row HR.out)).trans c3,(hbrw7.cell (p:=⟨N,4,none⟩) (lt_of_row HR.out)).trans c4,(hbrw7.cell (p:=⟨N,5,none⟩) (lt_of_row HR.out)).trans c5⟩
   refine zzK3 hsw7 hbw7 hbrw7 fun HSw7 HBw7 HBRw7=>?_
   clear hsw7 hbw7 hbrw7
   refine hK.out _ _ ⟨trivial,Kw7.out⟩ ?_
   clear hK KK
   try simp only [Act.put,List.setIfInBounds_toArray,List.set_cons_zero,List.set_cons_succ,List.getElem_toArray,List.getElem_cons_zero,List.getElem_cons_succ]
   refine wpAnyP_oneA 8 fun KK hK=>?_
   go_simp
   refine(cloneIns insR_one u.code co cc _ (HUP.out.code.mono (Below.trans HBM.out (HBRw7.out.mono HBM.out.size)) fun _ _ h=>h) HLN.out.2.2.1).mono ?_
   rintro e w8 ⟨⟨co1,cc1,rfl,hsw8⟩,hbw8⟩
   have hbrw8:Below wr.heap.size wr w8:=HBRw7.out.trans (hbw8.mono HBRw7.out.size)
   have Kw8:Hid (w8.cell? ⟨N,3,none⟩=some (.slice fo u.funcs.length fc)/\w8.cell? ⟨N,4,none⟩=some (.slice go u.funs.length gc)/\w8.cell? ⟨N,5,none⟩=some (.slice co u.code.length cc)):=Lib.hid ⟨(hbrw8.cell (p:=⟨N,3,none⟩) (lt_of_row HR.out)).trans c3,(hbrw8.cell (p:=⟨N,4,none⟩) (lt_of_row HR.out)).trans c4,(hbrw8.cell (p:=⟨N,5,none⟩) (lt_of_row HR.out)).trans c5⟩
   refine zzK3 hsw8 hbw8 hbrw8 fun HSw8 HBw8 HBRw8=>?_
   clear hsw8 hbw8 hbrw8
   have hr8:=(HBRw8.out.block N (lt_of_row HR.out)).trans HR.out
   have HR8:=Lib.hid hr8
   have y3:=Kw8.out.1;have y4:=Kw8.out.2.1;have y5:=Kw8.out.2.2
   have z3:=frozen_of_row _ _ 3 _ _ hr8;have z4:=frozen_of_row _ _ 4 _ _ hr8;have z5:=frozen_of_row _ _ 5 _ _ hr8
   clear hr8
   refine hK.out _ _ ⟨trivial,Kw8.out⟩ ?_
   clear hK KK
   try simp only [Act.put,List.setIfInBounds_toArray,List.set_cons_zero,List.set_cons_succ,List.getElem_toArray,List.getElem_cons_zero,List.getElem_cons_succ]
   refine wpAnyP_endA 10 fun KK hK=>?_
   go_simp
   refine hK.out _ _ trivial ?_
   clear hK KK
   try simp only [Act.put,List.setIfInBounds_toArray,List.set_cons_zero,List.set_cons_succ,List.getElem_toArray,List.getElem_cons_zero,List.getElem_cons_succ]
   refine wpAnyP_endA 11 fun KK hK=>?_
   go_simp
   refine hK.out _ _ trivial ?_
   clear hK KK
   try simp only [Act.put,List.setIfInBounds_toArray,List.set_cons_zero,List.set_cons_succ,List.getElem_toArray,List.getElem_cons_zero,List.getElem_cons_succ]
   refine wpAnyP_endA 12 fun KK hK=>?_
   go_simp
   refine hK.out _ _ trivial ?_
   clear hK KK
   try simp only [Act.put,List.setIfInBounds_toArray,List.set_cons_zero,List.set_cons_succ,List.getElem_toArray,List.getElem_cons_zero,List.getElem_cons_succ]
   refine wpAnyP_endA 13 fun KK hK=>?_
   go_simp
   refine hK.out _ _ trivial ?_
   clear hK KK
   try simp only [Act.put,List.setIfInBounds_toArray,List.set_cons_zero,List.set_cons_succ,List.getElem_toArray,List.getElem_cons_zero,List.getElem_cons_succ]
   refine wpAnyP_endA 14 fun KK hK=>?_
   go_simp
   refine hK.out _ _ trivial ?_
   clear hK KK
   try simp only [Act.put,List.setIfInBounds_toArray,List.set_cons_zero,List.set_cons_succ,List.getElem_toArray,List.getElem_cons_zero,List.getElem_cons_succ]
   refine wpAnyP_done (by kernel_rfl) ?_ _
   have d0:=heap_setCell_same _ _ 5 _ _ (.slice co1 u.code.length cc1) (heap_setCell_same _ _ 4 _ _ (.slice go1 u.funs.length gc1) (heap_setCell_same w8 N 3 _ _ (.slice fo1 u.funcs.length fc1) HR8.out))
   have dk: ∀b,b≠N->(((w8.setCell ⟨N,3,none⟩ (.slice fo1 u.funcs.length fc1)).setCell ⟨N,4,none⟩ (.slice go1 u.funs.length gc1)).setCell ⟨N,5,none⟩ (.slice co1 u.code.length cc1)).heap[b]?=w8.heap[b]?:=fun b hb=>(heap_setCell_other _ _ _ _ hb).trans ((heap_setCell_other _ _ _ _ hb).trans (heap_setCell_other _ _ _ _ hb))
   have ds:(((w8.setCell ⟨N,3,none⟩ (.slice fo1 u.funcs.length fc1)).setCell ⟨N,4,none⟩ (.slice go1 u.funs.length gc1)).setCell ⟨N,5,none⟩ (.slice co1 u.code.length cc1)).heap.size=w8.heap.size:=by simp [World.setCell]
   have db:Below N w (((w8.setCell ⟨N,3,none⟩ (.slice fo1 u.funcs.length fc1)).setCell ⟨N,4,none⟩ (.slice go1 u.funs.length gc1)).setCell ⟨N,5,none⟩ (.slice co1 u.code.length cc1)):=((((HN.out▸HBM.out:Below N w wr).trans (HBRw8.out.mono (HN.out▸HBM.out.size))).setCell (p:=⟨N,3,none⟩) (Nat.le_refl _) _).setCell (p:=⟨N,4,none⟩) (Nat.le_refl _) _).setCell (p:=⟨N,5,none⟩) (Nat.le_refl _) _
   generalize((w8.setCell ⟨N,3,none⟩ (.slice fo1 u.funcs.length fc1)).setCell ⟨N,4,none⟩ (.slice go1 u.funs.length gc1)).setCell ⟨N,5,none⟩ (.slice co1 u.code.length cc1)=wz at *
   replace d0:wz.heap[N]?=some (.cells #[.string u.mdl,.int .i64 u.vsn,.slice lo1 u.lits.length lc1,.slice fo1 u.funcs.length fc1,.slice go1 u.funs.length gc1,.slice co1 u.code.length cc1] 31 (0,0)):=d0
   have hs7:=HSw7.out;have hs8:=HSw8.out
   have hz6:w6.heap.size<=w7.heap.size:=HBw7.out.size
   have hz7:w7.heap.size<=w8.heap.size:=HBw8.out.size
   have hzr:wr.heap.size<=w6.heap.size:=HBw6.out.size
   have hnr:N+2<=wr.heap.size:=by have:=lt_of_row HZ.out;omega
   have hL1:SlS wz (SepT wz f) 44 9 (N+2) wr.heap.size lo1 u.lits:=HLS.out.kept (fun b b1 b2=>(dk b (by omega)).trans (HBRw8.out.block b b2)) (Nat.le_refl _) (Nat.le_refl _) fun a e cs t ha he hx=>hx.kept (fun b b1 b2=>(dk b (by omega)).trans (HBRw8.out.block b (by omega))) (Nat.le_refl _) (Nat.le_refl _)
   have hF1:SlS wz (fun _ _=>FuncR) 75 4 wr.heap.size w6.heap.size fo1 u.funcs:=HSw6.out.kept (fun b b1 b2=>(dk b (by have:wr.heap.size<=b:=b1;omega)).trans (((HBw7.out.trans (HBw8.out.mono HBw7.out.size)).block b b2))) (Nat.le_refl _) (Nat.le_refl _) fun _ _ _ _ _ _ h=>h
   have hG1:SlS wz (fun _ _=>FunR) 87 3 w6.heap.size w7.heap.size go1 u.funs:=HSw7.out.kept (fun b b1 b2=>(dk b (by omega)).trans (HBw8.out.block b b2)) (Nat.le_refl _) (Nat.le_refl _) fun _ _ _ _ _ _ h=>h
   have hI1:InsI w7.heap.size w u.code co1 0 wz:=InsI.start (hi:=w8.heap.size) (HSw8.out.kept (fun b b1 b2=>dk b (by omega)) (Nat.le_refl _) (Nat.le_refl _) fun _ _ _ _ _ _ h=>h)
   have hZ1:wz.heap[N+1]?=some (.cells #[.string ⟨#[]⟩,.int .i64 0,.slice none 0 0,.slice none 0 0,.slice none 0 0,.slice none 0 0] 31 (0,0)):=(dk _ (by omega)).trans ((HBRw8.out.block _ (lt_of_row HZ.out)).trans HZ.out)
   refine zzK7 d0 db hL1 hF1 hG1 hI1 hZ1 fun HD0 HDB HL1 HF1 HG1 HI1 HZ1=>?_
   have HM:Hid (N+2<=wr.heap.size/\wr.heap.size<=w6.heap.size/\w6.heap.size<=w7.heap.size/\w7.heap.size<=wz.heap.size):=Lib.hid ⟨hnr,hzr,hz6,by omega⟩
   have e5:wz.cell? ⟨N,5,none⟩=some (.slice co1 u.code.length cc1):=by rw [cell_of_row _ _ _ _ _ _ d0];rfl
   have hlc:u.code.length<=1100000000000:=by have:=HLN.out.2.2.1;omega
   generalize w6.heap.size=M2 at *
   generalize w7.heap.size=M3 at *
   generalize wr.heap.size=M1 at *
   clear dk ds db d0 hs7 hs8 hz6 hz7 hzr hnr hL1 hF1 hG1 hI1 hZ1 hHeld K1 Kw6 Kw7 Kw8 HSw6 HSw7 HSw8 HBw6 HBw7 HBw8 HBRw6 HBRw7 HBRw8 HR8 y3 y4 y5 z3 z4 z5 c3 c4 c5 HLS HBM HR HZ HBN
   go_wp2_with fail
   go_loopw [42] (fun iv wv=> ∃k:Nat,k<=u.code.length/\iv= .int .i64 k/\Hid (wv.heap[N]?=some (.cells #[.string u.mdl,.int .i64 u.vsn,.slice lo1 u.lits.length lc1,.slice fo1 u.funcs.length fc1,.slice go1 u.funs.length gc1,.slice co1 u.code.length cc1] 31 (0,0)))/\Hid (wv.heap[N+1]?=some (.cells #[.string ⟨#[]⟩,.int .i64 0,.slice none 0 0,.slice none 0 0,.slice none 0 0,.slice none 0 0] 31 (0,0)))/\Hid (InsI M3 w u.code co1 k wv)/\Hid (Below N w wv)/\Hid (∀b,N+2<=b->b<M3->wv.heap[b]?=wz.heap[b]?)/\Hid (wz.heap.size<=wv.heap.size)) (fun i _=>u.code.length-(intOf i).toNat)
   case atStart=>exact⟨0,Nat.zero_le _,rfl,HD0,HZ1,HI1,HDB,Lib.hid fun _ _ _=>rfl,Lib.hid (Nat.le_refl _)⟩
   case round=>
    obtain⟨k,hk,rfl,HR,HZ,HL,HBN,HKP,HSV⟩:=hrel
    rename World=>wv
    clear HD0 HI1 HDB HZ1
    have e5:wv.cell? ⟨N,5,none⟩=some (.slice co1 u.code.length cc1):=by rw [cell_of_row _ _ _ _ _ _ HR.out];rfl
    by_cases hlt:k<u.code.length
    ·obtain⟨g,arr,so,sc,zo,zc,go2,gc2,hco,hgM,hg,ha,hq,h1,h2,h3,hib⟩:=HL.out.next hlt
     subst hco
     obtain⟨x,hx⟩: ∃x,x=u.code[k]:=⟨_,rfl⟩
     rw [<-hx]at hq h1 h2 h3 hib
     have q3:wv.cell? ⟨g,k*10+3,none⟩=some (.slice so x.src.length sc):=hq 3 (by decide)
     have q8:wv.cell? ⟨g,k*10+8,none⟩=some (.slice zo x.cases.length zc):=hq 8 (by decide)
     have q9:wv.cell? ⟨g,k*10+9,none⟩=some (.slice go2 x.segs.length gc2):=hq 9 (by decide)
     have HXL:Hid (x.src.length*16<=140737488355328/\x.cases.length*16<=140737488355328/\x.segs.length*48<=140737488355328):=Lib.hid (HLN.out.2.2.2 x (by rw [hx];exact List.getElem_mem hlt))
     have HXS:Hid (SlAt w 2 ArgR so x.src/\SlAt w 2 CaseR zo x.cases/\SlAt w 6 SegR go2 x.segs):=Lib.hid ⟨h1,h2,h3⟩
     have HG:=Lib.hid hg;have HX:=Lib.hid hx;have HBM2:Hid (Below w.heap.size w wv):=Lib.hid (by rw [HN.out];exact HBN.out)
     have hgN:N+2<=g:=by have:=HM.out;omega
     clear hg hx h1 h2 h3 hib hq
     go_upto_region 12 with fail
     have K1:Hid (wv.drew.cell? ⟨g,k*10+3,none⟩=some (.slice so x.src.length sc)/\wv.drew.cell? ⟨g,k*10+8,none⟩=some (.slice zo x.cases.length zc)/\wv.drew.cell? ⟨g,k*10+9,none⟩=some (.slice go2 x.segs.length gc2)):=Lib.hid ⟨by simpa using q3,by simpa using q8,by simpa using q9⟩
     refine wp_region_P 20 (fun w'=>True) (fun w'=>w'.cell? ⟨g,k*10+3,none⟩=some (.slice so x.src.length sc)/\w'.cell? ⟨g,k*10+8,none⟩=some (.slice zo x.cases.length zc)/\w'.cell? ⟨g,k*10+9,none⟩=some (.slice go2 x.segs.length gc2)) (by kernel_rfl) ⟨trivial,K1.out⟩ (fun hHeld=>?_)
     refine wpAnyP_lateA 0 hHeld ?_
     simp only [Act.put,List.setIfInBounds_toArray,List.set_cons_zero,List.set_cons_succ,List.getElem_toArray,List.getElem_cons_zero,List.getElem_cons_succ]
     refine wpAnyP_lateA 1 hHeld ?_
     simp only [Act.put,List.setIfInBounds_toArray,List.set_cons_zero,List.set_cons_succ,List.getElem_toArray,List.getElem_cons_zero,List.getElem_cons_succ]
     refine wpAnyP_lateA 2 hHeld ?_
     simp only [Act.put,List.setIfInBounds_toArray,List.set_cons_zero,List.set_cons_succ,List.getElem_toArray,List.getElem_cons_zero,List.getElem_cons_succ]
     refine wpAnyP_lateA 3 hHeld ?_
     simp only [Act.put,List.setIfInBounds_toArray,List.set_cons_zero,List.set_cons_succ,List.getElem_toArray,List.getElem_cons_zero,List.getElem_cons_succ]
     refine wpAnyP_lateA 4 hHeld ?_
     simp only [Act.put,List.setIfInBounds_toArray,List.set_cons_zero,List.set_cons_succ,List.getElem_toArray,List.getElem_cons_zero,List.getElem_cons_succ]
     refine wpAnyP_lateA 5 hHeld ?_
     simp only [Act.put,List.setIfInBounds_toArray,List.set_cons_zero,List.set_cons_succ,List.getElem_toArray,List.getElem_cons_zero,List.getElem_cons_succ]
     refine wpAnyP_earlyA [] 6 hHeld ?_
     simp only [Act.put,List.setIfInBounds_toArray,List.set_cons_zero,List.set_cons_succ,List.getElem_toArray,List.getElem_cons_zero,List.getElem_cons_succ]
     refine wpAnyP_lateA 8 hHeld ?_
     simp only [Act.put,List.setIfInBounds_toArray,List.set_cons_zero,List.set_cons_succ,List.getElem_toArray,List.getElem_cons_zero,List.getElem_cons_succ]
     refine wpAnyP_lateA 9 hHeld ?_
     simp only [Act.put,List.setIfInBounds_toArray,List.set_cons_zero,List.set_cons_succ,List.getElem_toArray,List.getElem_cons_zero,List.getElem_cons_succ]
     refine wpAnyP_lateA 10 hHeld ?_
     simp only [Act.put,List.setIfInBounds_toArray,List.set_cons_zero,List.set_cons_succ,List.getElem_toArray,List.getElem_cons_zero,List.getElem_cons_succ]
     refine wpAnyP_earlyA [] 11 hHeld ?_
     simp only [Act.put,List.setIfInBounds_toArray,List.set_cons_zero,List.set_cons_succ,List.getElem_toArray,List.getElem_cons_zero,List.getElem_cons_succ]
     refine wpAnyP_lateA 13 hHeld ?_
     simp only [Act.put,List.setIfInBounds_toArray,List.set_cons_zero,List.set_cons_succ,List.getElem_toArray,List.getElem_cons_zero,List.getElem_cons_succ]
     refine wpAnyP_lateA 14 hHeld ?_
     simp only [Act.put,List.setIfInBounds_toArray,List.set_cons_zero,List.set_cons_succ,List.getElem_toArray,List.getElem_cons_zero,List.getElem_cons_succ]
     refine wpAnyP_lateA 15 hHeld ?_
     simp only [Act.put,List.setIfInBounds_toArray,List.set_cons_zero,List.set_cons_succ,List.getElem_toArray,List.getElem_cons_zero,List.getElem_cons_succ]
     refine wpAnyP_earlyA [] 16 hHeld ?_
     simp only [Act.put,List.setIfInBounds_toArray,List.set_cons_zero,List.set_cons_succ,List.getElem_toArray,List.getElem_cons_zero,List.getElem_cons_succ]
     refine wpAnyP_oneA 7 fun KK hK=>?_
     go_simp
     refine(cloneArg argR_one x.src so sc _ (HXS.out.1.mono (Below.trans HBM2.out (Below.mono ((Below.refl wv.heap.size wv).drew) HBM2.out.size)) fun _ _ h=>h) HXL.out.1).mono ?_
     rintro e v6 ⟨⟨so1,sc1,rfl,hsv6⟩,hbv6⟩
     have hbrv6:Below wv.heap.size wv v6:=((Below.refl wv.heap.size wv).drew).trans hbv6
     have Kv6:Hid (v6.cell? ⟨g,k*10+3,none⟩=some (.slice so x.src.length sc)/\v6.cell? ⟨g,k*10+8,none⟩=some (.slice zo x.cases.length zc)/\v6.cell? ⟨g,k*10+9,none⟩=some (.slice go2 x.segs.length gc2)):=Lib.hid ⟨(hbrv6.cell (p:=⟨g,k*10+3,none⟩) (lt_of_row HG.out)).trans q3,(hbrv6.cell (p:=⟨g,k*10+8,none⟩) (lt_of_row HG.out)).trans q8,(hbrv6.cell (p:=⟨g,k*10+9,none⟩) (lt_of_row HG.out)).trans q9⟩
     refine zzK3 hsv6 hbv6 hbrv6 fun HSv6 HBv6 HBRv6=>?_
     clear hsv6 hbv6 hbrv6
     refine hK.out _ _ ⟨trivial,Kv6.out⟩ ?_
     clear hK KK
     try simp only [Act.put,List.setIfInBounds_toArray,List.set_cons_zero,List.set_cons_succ,List.getElem_toArray,List.getElem_cons_zero,List.getElem_cons_succ]
     refine wpAnyP_oneA 12 fun KK hK=>?_
     go_simp
     refine(cloneCase caseR_one x.cases zo zc _ (HXS.out.2.1.mono (Below.trans HBM2.out (HBRv6.out.mono HBM2.out.size)) fun _ _ h=>h) HXL.out.2.1).mono ?_
     rintro e v7 ⟨⟨zo1,zc1,rfl,hsv7⟩,hbv7⟩
     have hbrv7:Below wv.heap.size wv v7:=HBRv6.out.trans (hbv7.mono HBRv6.out.size)
     have Kv7:Hid (v7.cell? ⟨g,k*10+3,none⟩=some (.slice so x.src.length sc)/\v7.cell? ⟨g,k*10+8,none⟩=some (.slice zo x.cases.length zc)/\v7.cell? ⟨g,k*10+9,none⟩=some (.slice go2 x.segs.length gc2)):=Lib.hid ⟨(hbrv7.cell (p:=⟨g,k*10+3,none⟩) (lt_of_row HG.out)).trans q3,(hbrv7.cell (p:=⟨g,k*10+8,none⟩) (lt_of_row HG.out)).trans q8,(hbrv7.cell (p:=⟨g,k*10+9,none⟩) (lt_of_row HG.out)).trans q9⟩
     refine zzK3 hsv7 hbv7 hbrv7 fun HSv7 HBv7 HBRv7=>?_
     clear hsv7 hbv7 hbrv7
     refine hK.out _ _ ⟨trivial,Kv7.out⟩ ?_
     clear hK KK
     try simp only [Act.put,List.setIfInBounds_toArray,List.set_cons_zero,List.set_cons_succ,List.getElem_toArray,List.getElem_cons_zero,List.getElem_cons_succ]
     refine wpAnyP_oneA 17 fun KK hK=>?_
     go_simp
     refine(cloneSeg segR_one x.segs go2 gc2 _ (HXS.out.2.2.mono (Below.trans HBM2.out (HBRv7.out.mono HBM2.out.size)) fun _ _ h=>h) HXL.out.2.2).mono ?_
     rintro e v8 ⟨⟨go21,gc21,rfl,hsv8⟩,hbv8⟩
     have hbrv8:Below wv.heap.size wv v8:=HBRv7.out.trans (hbv8.mono HBRv7.out.size)
     have Kv8:Hid (v8.cell? ⟨g,k*10+3,none⟩=some (.slice so x.src.length sc)/\v8.cell? ⟨g,k*10+8,none⟩=some (.slice zo x.cases.length zc)/\v8.cell? ⟨g,k*10+9,none⟩=some (.slice go2 x.segs.length gc2)):=Lib.hid ⟨(hbrv8.cell (p:=⟨g,k*10+3,none⟩) (lt_of_row HG.out)).trans q3,(hbrv8.cell (p:=⟨g,k*10+8,none⟩) (lt_of_row HG.out)).trans q8,(hbrv8.cell (p:=⟨g,k*10+9,none⟩) (lt_of_row HG.out)).trans q9⟩
     refine zzK3 hsv8 hbv8 hbrv8 fun HSv8 HBv8 HBRv8=>?_
     clear hsv8 hbv8 hbrv8
     have hr8:=(HBRv8.out.block g (lt_of_row HG.out)).trans HG.out
     have HR8:=Lib.hid hr8
     have y3:=Kv8.out.1;have y4:=Kv8.out.2.1;have y5:=Kv8.out.2.2
     have z3:=frozen_of_row _ _ (k*10+3) _ _ hr8;have z4:=frozen_of_row _ _ (k*10+8) _ _ hr8;have z5:=frozen_of_row _ _ (k*10+9) _ _ hr8
     clear hr8
     refine hK.out _ _ ⟨trivial,Kv8.out⟩ ?_
     clear hK KK
     try simp only [Act.put,List.setIfInBounds_toArray,List.set_cons_zero,List.set_cons_succ,List.getElem_toArray,List.getElem_cons_zero,List.getElem_cons_succ]
     refine wpAnyP_lateA 18 ⟨trivial,Kv8.out⟩ ?_
     simp only [Act.put,List.setIfInBounds_toArray,List.set_cons_zero,List.set_cons_succ,List.getElem_toArray,List.getElem_cons_zero,List.getElem_cons_succ]
     refine wpAnyP_lateA 19 ⟨trivial,Kv8.out⟩ ?_
     simp only [Act.put,List.setIfInBounds_toArray,List.set_cons_zero,List.set_cons_succ,List.getElem_toArray,List.getElem_cons_zero,List.getElem_cons_succ]
     refine wpAnyP_endA 20 fun KK hK=>?_
     go_simp
     refine hK.out _ _ trivial ?_
     clear hK KK
     try simp only [Act.put,List.setIfInBounds_toArray,List.set_cons_zero,List.set_cons_succ,List.getElem_toArray,List.getElem_cons_zero,List.getElem_cons_succ]
     refine wpAnyP_endA 21 fun KK hK=>?_
     go_simp
     refine hK.out _ _ trivial ?_
     clear hK KK
     try simp only [Act.put,List.setIfInBounds_toArray,List.set_cons_zero,List.set_cons_succ,List.getElem_toArray,List.getElem_cons_zero,List.getElem_cons_succ]
     refine wpAnyP_endA 22 fun KK hK=>?_
     go_simp
     refine hK.out _ _ trivial ?_
     clear hK KK
     try simp only [Act.put,List.setIfInBounds_toArray,List.set_cons_zero,List.set_cons_succ,List.getElem_toArray,List.getElem_cons_zero,List.getElem_cons_succ]
     refine wpAnyP_endA 23 fun KK hK=>?_
     go_simp
     refine hK.out _ _ trivial ?_
     clear hK KK
     try simp only [Act.put,List.setIfInBounds_toArray,List.set_cons_zero,List.set_cons_succ,List.getElem_toArray,List.getElem_cons_zero,List.getElem_cons_succ]
     refine wpAnyP_endA 24 fun KK hK=>?_
     go_simp
     refine hK.out _ _ trivial ?_
     clear hK KK
     try simp only [Act.put,List.setIfInBounds_toArray,List.set_cons_zero,List.set_cons_succ,List.getElem_toArray,List.getElem_cons_zero,List.getElem_cons_succ]
     refine wpAnyP_endA 25 fun KK hK=>?_
     go_simp
     refine hK.out _ _ trivial ?_
     clear hK KK
     try simp only [Act.put,List.setIfInBounds_toArray,List.set_cons_zero,List.set_cons_succ,List.getElem_toArray,List.getElem_cons_zero,List.getElem_cons_succ]
     refine wpAnyP_endA 26 fun KK hK=>?_
     go_simp
     refine hK.out _ _ trivial ?_
     clear hK KK
     try simp only [Act.put,List.setIfInBounds_toArray,List.set_cons_zero,List.set_cons_succ,List.getElem_toArray,List.getElem_cons_zero,List.getElem_cons_succ]
     refine wpAnyP_done (by kernel_rfl) ?_ _
     generalize hw7:World.setCell _ _ _=w9
     have hst:=HL.out.step (so:=so1) (sc:=sc1) (zo:=zo1) (zc:=zc1) (go:=go21) (gc:=gc21) hlt (by have:=HM.out;have:=HSV.out;omega) HBRv8.out
      (by rw [<-HX.out];exact HSv6.out.kept (fun b _ b2=>((HBv7.out.trans (HBv8.out.mono HBv7.out.size)).block b b2)) (Nat.le_refl _) (HBv7.out.trans (HBv8.out.mono HBv7.out.size)).size fun _ _ _ _ _ _ h=>h)
      (by rw [<-HX.out];exact HSv7.out.kept (fun b _ b2=>HBv8.out.block b b2) HBv6.out.size HBv8.out.size fun _ _ _ _ _ _ h=>h)
      (by rw [<-HX.out];exact HSv8.out.kept (fun b _ _=>rfl) (Nat.le_trans HBv6.out.size HBv7.out.size) (Nat.le_refl _) fun _ _ _ _ _ _ h=>h)
     rw [<-HX.out,hw7]at hst
     have hoth: ∀b,b≠g->w9.heap[b]?=v8.heap[b]?:=fun b hb=>by rw [<-hw7];exact(heap_setCell_other _ _ _ _ hb).trans ((heap_setCell_other _ _ _ _ hb).trans (heap_setCell_other _ _ _ _ hb))
     have hsz9:w9.heap.size=v8.heap.size:=by rw [<-hw7];simp [World.setCell]
     have hn7:=(hoth N (by omega)).trans ((HBRv8.out.block _ (lt_of_row HR.out)).trans HR.out)
     have hn8:=(hoth (N+1) (by omega)).trans ((HBRv8.out.block _ (lt_of_row HZ.out)).trans HZ.out)
     have hbw:Below N w w9:=by rw [<-hw7];exact(((HBN.out.trans (HBRv8.out.mono (by have:=lt_of_row HR.out;omega))).setCell (p:=⟨g,_,none⟩) (by show N<=g;omega) _).setCell (p:=⟨g,_,none⟩) (by show N<=g;omega) _).setCell (p:=⟨g,_,none⟩) (by show N<=g;omega) _
     have hkp: ∀b,N+2<=b->b<M3->w9.heap[b]?=wz.heap[b]?:=fun b b1 b2=>(hoth b (by omega)).trans ((HBRv8.out.block b (by have:=HM.out;have:=HSV.out;omega)).trans (HKP.out b b1 b2))
     refine zzK5 hn7 hn8 hst hbw hkp fun H7 H8 HST HBW HKK=>?_
     have HSS:Hid (wz.heap.size<=w9.heap.size):=Lib.hid (by rw [hsz9];exact Nat.le_trans HSV.out HBRv8.out.size)
     clear hw7 hn7 hn8 hst hbw hkp hoth hsz9 Kv6 Kv7 Kv8 K1 hHeld y3 y4 y5 z3 z4 z5 q3 q8 q9 HSv6 HSv7 HSv8 HBv6 HBv7 HBv8 HBRv6 HBRv7 HBRv8 HR8
     go_wp2_with fail
     go_roundw
     case rel=>exact⟨k+1,by omega,by go_num,H7,H8,HST,HBW,HKK,HSS⟩
     case measure=>simp [intOf];omega
    ·have hkl:k=u.code.length:=by omega
     subst hkl
     have hL:=HL.out.stop
     have HLS:=Lib.hid hL
     clear hL HL
     go_upto_region 14 with fail
     rename_i K hK
     refine wp_region_list ?_
     refine wpList_load_row rfl 31 (.tmp 1) rfl N rfl 31 _ _ _ HR.out Tryz.underlying31 rfl (by kernel_rfl) ?_
     refine wpList_store_row rfl 31 (.tmp 2) (.tmp 74) rfl (N+1) #[.string u.mdl,.int .i64 u.vsn,.slice lo1 u.lits.length lc1,.slice fo1 u.funcs.length fc1,.slice go1 u.funs.length gc1,.slice co1 u.code.length cc1] rfl rfl 31 _ HZ.out (by kernel_rfl) rfl (by simp [Value.oneCell']) ?_
     refine wpList_nil ?_
     refine hK _ _ ?_
     refine wp_ret ?_
     refine bodyPost_ret (results_cell_row rfl _ _ (N+1) _ _ _ _ rfl (setRow_heap _ _ _ _ _ _ HZ.out) Tryz.underlying31 rfl (by kernel_rfl)) rfl ?_
     have hrs:(wv.setRow (N+1) #[.string u.mdl,.int .i64 u.vsn,.slice lo1 u.lits.length lc1,.slice fo1 u.funcs.length fc1,.slice go1 u.funs.length gc1,.slice co1 u.code.length cc1]).heap.size=wv.heap.size:=by simp [World.setRow]
     have hro: ∀b,b≠N+1->(wv.setRow (N+1) #[.string u.mdl,.int .i64 u.vsn,.slice lo1 u.lits.length lc1,.slice fo1 u.funcs.length fc1,.slice go1 u.funs.length gc1,.slice co1 u.code.length cc1]).heap[b]?=wv.heap[b]?:=fun b hb=>setRow_other _ _ _ _ hb
     have hrb:Below N w (wv.setRow (N+1) #[.string u.mdl,.int .i64 u.vsn,.slice lo1 u.lits.length lc1,.slice fo1 u.funcs.length fc1,.slice go1 u.funs.length gc1,.slice co1 u.code.length cc1]):=below_setRow HBN.out (Nat.le_succ _) _
     generalize wv.setRow (N+1) #[.string u.mdl,.int .i64 u.vsn,.slice lo1 u.lits.length lc1,.slice fo1 u.funcs.length fc1,.slice go1 u.funs.length gc1,.slice co1 u.code.length cc1]=wf at *
     rw [HN.out]
     have hm:=HM.out
     have hsv:=HSV.out
     have hfar: ∀b,N+2<=b->b<M3->wf.heap[b]?=wz.heap[b]?:=fun b b1 b2=>(hro b (by omega)).trans (HKP.out b b1 b2)
     refine⟨⟨lo1,lc1,fo1,fc1,go1,gc1,co1,cc1,rfl,M1,M2,M3,by omega,hm.2.1,hm.2.2.1,by omega,?_,?_,?_,?_⟩,hrb⟩
     ·exact HL1.out.kept (fun b b1 b2=>hfar b b1 (by omega)) (by omega) (Nat.le_refl _) fun a e cs t ha he hx=>hx.kept (fun b b1 b2=>hfar b (by omega) (by omega)) (Nat.le_refl _) (Nat.le_refl _)
     ·exact HF1.out.kept (fun b b1 b2=>hfar b (by omega) (by omega)) (Nat.le_refl _) (Nat.le_refl _) fun _ _ _ _ _ _ h=>h
     ·exact HG1.out.kept (fun b b1 b2=>hfar b (by omega) b2) (Nat.le_refl _) (Nat.le_refl _) fun _ _ _ _ _ _ h=>h
     ·exact HLS.out.kept (fun b b1 b2=>hro b (by omega)) (Nat.le_refl _) (by omega) fun a e cs t ha he hx=>hx.kept (fun b b1 b2=>hro b (by omega)) (Nat.le_refl _) (Nat.le_refl _)
open Go.RowKit Go.Maps Go.WideMaps
theorem step_mapUpdate {H:Type} {P:Program} (w:World) {ops:Array Oper} {o:Oper} {a:Act} {K':Act->World->Prop} {Q:Exit->Act->World->Prop} {E:Prop}
  (hg:o.guard=none) (m x v:Operand) (t:TypeId) (hop:o.op=Op.mapUpdate t m x v)
  (k e:TypeId) (K:Keyed P k) (ht:P.underlying t=some (.map k e)) (R:Value->Option (DataW H × List MemPlace)) (b n:Nat) (D:DataW H)
  (hm:a.eval m= .map (some b)) (hown:w.ownsMap P k R b n D) (hn:n<maxLen) (key val:Value) (kl:Lit) (hx:a.eval x=key) (hv:a.eval v=val) (hkey:keyOf P k key=some kl)
  (d:DataW H) (ps:List MemPlace) (hval:R val=some (d,ps))
  (hK: ∀w',w'.ownsMap P k R b (n+1) (D.put kl d)->w.grownBy w' (some b)->K' (a.put o.dst undef) w'):
  if Region.wanted o (yielded ops a.tmps)=true then Oper.wp P o a w K' Q else E:=by
 have hw:Region.wanted o (yielded ops a.tmps)=true:=by simp [Region.wanted,hg]
 rw [if_pos hw]
 obtain⟨w',hrun,r1,r2⟩:=hown.update K ht hn hkey hval
 unfold Oper.wp
 simp [execOp,hop,hm,hx,hv,hrun,Result.andThen]
 exact hK w' r1 r2
def expK (l:List RFunc):Nat->ByteArray->Int->Option Nat
 |0,_,_=>none
 |k+1,s,a=>if(match l[k]? with|some x=>x.pub&&(x.name.data.toList==s.data.toList&&x.arity==a)|none=>false)=true then some k else expK l k s a
def IdxIs (w:World) (M k:Nat) (l:List RFunc) (nM:Nat) (D:DataW Unit):Prop:=
 w.ownsMap Tryz.prog 99 (plainElem Tryz.prog 3) M nM D/\nM<=k/\ ∀(s:ByteArray) (a:Int),s.size<=maxLen->I64 a->D.atKey (sigKey s a) (.lit (.int .i64 0))= .lit (.int .i64 ((expK l k s a).getD 0:Nat))/\has D (sigKey s a)=(expK l k s a).isSome
theorem IdxIs.below {w w':World} {M k nM:Nat} {l:List RFunc} {D:DataW Unit} (h:IdxIs w M k l nM D) (hb:Below w.heap.size w w'):IdxIs w' M k l nM D:=
 ⟨h.1.kept (row:=none) ⟨hb.os,hb.tape,hb.output,hb.size,fun k hk _=>hb.block k hk⟩ (by simp),h.2⟩
theorem IdxIs.skip {w:World} {M k nM:Nat} {l:List RFunc} {D:DataW Unit} (h:IdxIs w M k l nM D) {x:RFunc} (hx:l[k]?=some x) (hp:x.pub=false):IdxIs w M (k+1) l nM D:=by
 refine⟨h.1,Nat.le_succ_of_le h.2.1,fun s a hs ha=>?_⟩
 have e:expK l (k+1) s a=expK l k s a:=by show(if _=true then _ else _)=_;rw [hx];simp [hp]
 rw [e];exact h.2.2 s a hs ha
theorem IdxIs.put {w w':World} {M k nM:Nat} {l:List RFunc} {D:DataW Unit} (h:IdxIs w M k l nM D) {x:RFunc} (hx:l[k]?=some x) (hp:x.pub=true) (h1:x.name.size<=maxLen) (h2:I64 x.arity)
  (ho:w'.ownsMap Tryz.prog 99 (plainElem Tryz.prog 3) M (nM+1) (D.put (sigKey x.name x.arity) (.lit (.int .i64 (k:Nat))))):IdxIs w' M (k+1) l (nM+1) (D.put (sigKey x.name x.arity) (.lit (.int .i64 (k:Nat)))):=by
 refine⟨ho,Nat.succ_le_succ h.2.1,fun s a hs ha=>?_⟩
 by_cases e:s=x.name/\a=x.arity
 ·obtain⟨rfl,rfl⟩:=e
  have e:expK l (k+1) x.name x.arity=some k:=by show(if _=true then _ else _)=_;rw [hx];simp [hp]
  rw [e,atKey_put_same h.1.isMap (sigLaw.key (keyOf_sig hs ha)),has_put_same h.1.isMap (sigLaw.key (keyOf_sig hs ha))]
  exact⟨rfl,rfl⟩
 ·have hne:sigKey s a≠sigKey x.name x.arity:=fun h=>e (sigKey_inj hs h1 ha h2 h)
  have e2:expK l (k+1) s a=expK l k s a:=by
   show(if _=true then _ else _)=_
   rw [hx,if_neg]
   intro hh
   simp only [hp,Bool.true_and,Bool.and_eq_true,beq_iff_eq]at hh
   exact e ⟨ByteArray.ext (Array.toList_inj.1 hh.1.symm),hh.2.symm⟩
  rw [e2,atKey_put_other hne,has_put_other hne]
  exact h.2.2 s a hs ha
def ImgAt (w:World) (m M f lo hi:Nat) (u:RUnit):Prop:=
 ∃lo1 lc1 fo1 fc1 go1 gc1 co1 cc1,w.heap[m]?=some (.cells #[.string u.mdl,.int .i64 u.vsn,.slice lo1 u.lits.length lc1,.slice fo1 u.funcs.length fc1,.slice go1 u.funs.length gc1,.slice co1 u.code.length cc1,.map (some M)] 82 (0,0))/\UNew w f lo hi u lo1 fo1 go1 co1/\hi<=M/\M<m/\ ∃nM D,IdxIs w M u.funcs.length u.funcs nM D
def LoadQ (f:Nat) (u:RUnit) (V:Int × Int) (w:World) (e:Ending) (w':World):Prop:=
 Below w.heap.size w w'/\(V.2≠0->e= .returned (.tuple #[.pointer none,.int .i64 V.2]))/\(V.2=0-> ∃m M lo hi,e= .returned (.tuple #[.pointer (some ⟨m,0,none⟩),.int .i64 0])/\w.heap.size<=lo/\ImgAt w' m M f lo hi u)
theorem seven_cells' {w:World} {b:Nat} {T:TypeId} {v0 v1 v2 v3 v4 v5 v6:Value} {fr:Nat × Nat} (h:w.heap[b]?=some (.cells #[v0,v1,v2,v3,v4,v5,v6] T fr)):
  w.cell? ⟨b,0,none⟩=some v0/\w.cell? ⟨b,1,none⟩=some v1/\w.cell? ⟨b,2,none⟩=some v2/\w.cell? ⟨b,3,none⟩=some v3/\w.cell? ⟨b,4,none⟩=some v4/\w.cell? ⟨b,5,none⟩=some v5/\w.cell? ⟨b,6,none⟩=some v6:=by
 have hc:=fun j=>cell_of_row w b j _ _ _ h
 exact⟨hc 0,hc 1,hc 2,hc 3,hc 4,hc 5,hc 6⟩
theorem vload_any (f:Nat) (u:RUnit) (V:Int × Int) (lo fo go co:zzA) (lc fc gc cc:Nat) (w:World) (h:UP w u lo fo go co) (hd:SlAt w 9 (TmAt w f) lo u.lits) (hcap:sumN (u.lits.map (capF f))+u.lits.length<=1000000) (hl:V.2=0->LenB u)
  (hw: ∀w1,Below w.heap.size w w1->Calls Tryz.prog 31 #[.agg #[.string u.mdl,.int .i64 u.vsn,.slice lo u.lits.length lc,.slice fo u.funcs.length fc,.slice go u.funs.length gc,.slice co u.code.length cc]] w1 fun e w2=>e= .returned (.tuple #[.int .i64 V.1,.int .i64 V.2])/\Below w1.heap.size w1 w2):
  Calls Tryz.prog 20 #[.agg #[.string u.mdl,.int .i64 u.vsn,.slice lo u.lits.length lc,.slice fo u.funcs.length fc,.slice go u.funs.length gc,.slice co u.code.length cc]] w (LoadQ f u V w):=by
 refine zzK4 h hd hcap hl fun HUP HD HCAP HLN=>?_
 have hr:=heap_alloc_new w (.cells #[.string u.mdl,.int .i64 u.vsn,.slice lo u.lits.length lc,.slice fo u.funcs.length fc,.slice go u.funs.length gc,.slice co u.code.length cc] 31)
 have hb:=(Below.refl w.heap.size w).alloc (Nat.le_refl _) (.cells #[.string u.mdl,.int .i64 u.vsn,.slice lo u.lits.length lc,.slice fo u.funcs.length fc,.slice go u.funs.length gc,.slice co u.code.length cc] 31)
 refine zzK3 hr hb (hw _ hb) fun HR HB HWH=>?_
 obtain⟨Q,hQ⟩: ∃Q,Q=LoadQ f u V w:=⟨_,rfl⟩
 rw [<-hQ]
 have HQ:=Lib.hid hQ
 clear h hd hcap hl hr hb hw hQ
 go_in
 go_upto_region 1 with fail
 generalize w.alloc _=W at *
 obtain⟨c0,c1,c2,c3,c4,c5⟩:=six_cells HR.out
 obtain⟨v1,v2⟩:=V
 by_cases hv:v2=0
 case neg=>
  have hne : (v2 != 0) = true := by simpa using hv
  go_wp2_with (go_at_call 31;refine HWH.out.mono ?_;rintro e w2 ⟨rfl,hb2⟩)
  rw [HQ.out]
  exact⟨HB.out.trans (hb2.mono HB.out.size),fun _=>rfl,fun h=>absurd h hv⟩
 have hne : (v2 != 0) = false := by simpa using hv
 have hmm:= @run_makeMap Tryz.prog
 have HV:=Lib.hid hv
 clear hv
 go_upto_region 4 with(go_at_call 31;refine HWH.out.mono ?_;rintro e w2 ⟨rfl,hb2⟩)
 have hb3:=HB.out.trans (hb2.mono HB.out.size)
 have hr3:=(hb2.block _ (lt_of_row HR.out)).trans HR.out
 obtain⟨d0,d1,d2,d3,d4,d5⟩:=six_cells hr3
 have hcp:=vcopied_any f u lo fo go co lc fc gc cc w2 (HUP.out.below hb3) (HD.out.mono hb3 fun _ _ h=>h.below hb3) HCAP.out (HLN.out HV.out)
 have HCP:=Lib.hid hcp;have HB3:=Lib.hid hb3
 clear hcp hb3 hr3 hb2 c0 c1 c2 c3 c4 c5
 go_upto_region 5 with(go_at_call 32;refine HCP.out.mono ?_;rintro e w4 ⟨⟨lo1,lc1,fo1,fc1,go1,gc1,co1,cc1,rfl,hun⟩,hb4⟩)
 obtain⟨s0,s1,sb,ss⟩:=two_new w4 (.map #[] 0) (.cells #[.string u.mdl,.int .i64 u.vsn,.slice lo1 u.lits.length lc1,.slice fo1 u.funcs.length fc1,.slice go1 u.funs.length gc1,.slice co1 u.code.length cc1,.map (some w4.heap.size)] 82)
 have hmade:=(World.ownsMap_made (H:=Unit) w4 Tryz.prog 99 (plainElem Tryz.prog 3)).alloc (.cells #[.string u.mdl,.int .i64 u.vsn,.slice lo1 u.lits.length lc1,.slice fo1 u.funcs.length fc1,.slice go1 u.funs.length gc1,.slice co1 u.code.length cc1,.map (some w4.heap.size)] 82)
 obtain⟨M,hM⟩: ∃M,M=w4.heap.size:=⟨_,rfl⟩
 obtain⟨m,hm⟩: ∃m,m=M+1:=⟨_,rfl⟩
 have hun5:=hun.kept (w':=(w4.alloc (.map #[] 0)).alloc (.cells #[.string u.mdl,.int .i64 u.vsn,.slice lo1 u.lits.length lc1,.slice fo1 u.funcs.length fc1,.slice go1 u.funs.length gc1,.slice co1 u.code.length cc1,.map (some w4.heap.size)] 82)) (fun b _ b2=>sb.block b b2) (Nat.le_refl _) (Nat.le_refl _)
 have hb5:Below w.heap.size w ((w4.alloc (.map #[] 0)).alloc (.cells #[.string u.mdl,.int .i64 u.vsn,.slice lo1 u.lits.length lc1,.slice fo1 u.funcs.length fc1,.slice go1 u.funs.length gc1,.slice co1 u.code.length cc1,.map (some w4.heap.size)] 82)):=HB3.out.trans ((hb4.mono HB3.out.size).trans (sb.mono (Nat.le_trans HB3.out.size hb4.size)))
 have hlo:w.heap.size<=w2.heap.size:=HB3.out.size
 rw [<-hM]at hmade s0 s1 hun5 hb5 ⊢
 rw [<-hm]at s1 ⊢
 have hmM:M<m:=by omega
 generalize(w4.alloc (.map #[] 0)).alloc (.cells #[.string u.mdl,.int .i64 u.vsn,.slice lo1 u.lits.length lc1,.slice fo1 u.funcs.length fc1,.slice go1 u.funs.length gc1,.slice co1 u.code.length cc1,.map (some M)] 82)=w5 at *
 obtain⟨i0',i1',i2',i3',i4',i5',i6'⟩:=seven_cells' s1
 have HM:Hid (w4.heap.size<=M/\M<m/\w.heap.size<=w2.heap.size/\w2.heap.size<=w4.heap.size/\w.heap.size<=M):=Lib.hid ⟨by omega,hmM,hlo,hb4.size,by have:=hb4.size;omega⟩
 refine zzK3 s1 hun5 hb5 fun HS1 HUN HB5=>?_
 have HIX:Hid (∃nM D,IdxIs w5 M 0 u.funcs nM D):=Lib.hid ⟨0,_,hmade,Nat.le_refl _,fun s a _ _=>⟨rfl,rfl⟩⟩
 have hfl:u.funcs.length<=4000000000000:=by have:=(HLN.out HV.out).1;omega
 clear s0 s1 sb ss hmade hun hun5 hb5 hb4 hlo hmM hM hm d0 d1 d2 d3 d4 d5 HCP HWH HB3 HB HR
 go_wp2_with fail
 go_loopw [30] (fun iv wr=> ∃k:Nat,k<=u.funcs.length/\iv= .int .i64 k/\Hid (wr.heap[m]?=some (.cells #[.string u.mdl,.int .i64 u.vsn,.slice lo1 u.lits.length lc1,.slice fo1 u.funcs.length fc1,.slice go1 u.funs.length gc1,.slice co1 u.code.length cc1,.map (some M)] 82 (0,0)))/\Hid (UNew wr f w2.heap.size M u lo1 fo1 go1 co1)/\Hid (Below w.heap.size w wr)/\Hid (∃nM D,IdxIs wr M k u.funcs nM D)/\Hid (m<wr.heap.size)) (fun i _=>u.funcs.length-(intOf i).toNat)
 case atStart=>exact⟨0,Nat.zero_le _,rfl,HS1,HUN,HB5,HIX,Lib.hid (lt_of_row HS1.out)⟩
 case round=>
  obtain⟨k,hk,rfl,HS,HU,HBW,HI,HMS⟩:=hrel
  rename World=>wr
  clear HS1 HUN HB5 HIX i0' i1' i2' i3' i4' i5' i6'
  by_cases hlt:k<u.funcs.length
  ·obtain⟨m1,m2,m3,b1,b2,b3,b4,-,hF,-,-⟩:=HU.out
   rcases hF with hF|⟨b,arr,a,e,hfo,hbl,hbh,hg,-,hx⟩
   ·rw [hF]at hlt;exact absurd hlt (Nat.not_lt_zero _)
   obtain⟨cs,k1,k2,k3⟩:=hx k hlt
   obtain⟨rfl,hn1,hn2,hn3⟩:=k3
   obtain⟨x,hxe⟩: ∃x,x=u.funcs[k]:=⟨_,rfl⟩
   have hxk:u.funcs[k]?=some x:=by rw [hxe];exact List.getElem?_eq_getElem hlt
   rw [<-hxe]at k1 k2 hn1 hn2 hn3
   have q0:wr.cell? ⟨b,k*4,none⟩=some (.string x.name):=by rw [cell_of_row _ _ _ _ _ _ hg];exact k2 0 (by decide)
   have q1:wr.cell? ⟨b,k*4+1,none⟩=some (.int .i64 x.arity):=by rw [cell_of_row _ _ _ _ _ _ hg];exact k2 1 (by decide)
   have q2:wr.cell? ⟨b,k*4+2,none⟩=some (.bool x.pub):=by rw [cell_of_row _ _ _ _ _ _ hg];exact k2 2 (by decide)
   have q3:wr.cell? ⟨b,k*4+3,none⟩=some (.int .i64 x.entry):=by rw [cell_of_row _ _ _ _ _ _ hg];exact k2 3 (by decide)
   subst hfo
   have HXB:Hid (x.name.size<=maxLen/\I64 x.arity):=Lib.hid ⟨hn1,hn2⟩
   have HXK:=Lib.hid hxk
   have hwb:Below wr.heap.size wr (wr.alloc (.cells #[.string x.name,.int .i64 x.arity,.bool x.pub,.int .i64 x.entry] 75)):=zzE _ _
   have hwn:=heap_alloc_new wr (.cells #[.string x.name,.int .i64 x.arity,.bool x.pub,.int .i64 x.entry] 75)
   have hws:(wr.alloc (.cells #[.string x.name,.int .i64 x.arity,.bool x.pub,.int .i64 x.entry] 75)).heap.size=wr.heap.size+1:=by simp
   refine zzK3 hwb hwn hws fun HWB HWN HWS=>?_
   clear hxe k1 k2 hx hbl hbh hg hn1 hn2 hn3 hxk hwb hwn hws b1 b2 b3 b4
   go_upto_region 8 with fail
   generalize wr.alloc _=Wb at *
   have x0:Wb.cell? ⟨wr.heap.size,0,none⟩=some (.string x.name):=by rw [cell_of_row _ _ _ _ _ _ HWN.out];rfl
   have x1:Wb.cell? ⟨wr.heap.size,1,none⟩=some (.int .i64 x.arity):=by rw [cell_of_row _ _ _ _ _ _ HWN.out];rfl
   have x2:Wb.cell? ⟨wr.heap.size,2,none⟩=some (.bool x.pub):=by rw [cell_of_row _ _ _ _ _ _ HWN.out];rfl
   have HSB:Hid (Wb.heap[m]?=some (.cells #[.string u.mdl,.int .i64 u.vsn,.slice lo1 u.lits.length lc1,.slice (some ⟨b,0,none⟩) u.funcs.length fc1,.slice go1 u.funs.length gc1,.slice co1 u.code.length cc1,.map (some M)] 82 (0,0))):=Lib.hid ((HWB.out.block _ HMS.out).trans HS.out)
   have HUB:Hid (UNew Wb f w2.heap.size M u lo1 (some ⟨b,0,none⟩) go1 co1):=Lib.hid (HU.out.kept (fun b _ b2=>HWB.out.block b (by have:=HM.out;have:=HMS.out;omega)) (Nat.le_refl _) (Nat.le_refl _))
   have HBB:Hid (Below w.heap.size w Wb):=Lib.hid (HBW.out.trans (HWB.out.mono HBW.out.size))
   have HMB:Hid (m<Wb.heap.size):=Lib.hid (by have:=HWS.out;have:=HMS.out;omega)
   obtain⟨nM,D,hix⟩:=HI.out
   have HIB:=Lib.hid (hix.below HWB.out)
   clear hix HI HS HU HBW q0 q1 q2 q3
   have i6:Wb.cell? ⟨m,6,none⟩=some (.map (some M)):=by rw [cell_of_row _ _ _ _ _ _ HSB.out];rfl
   cases hp:x.pub with
   |false=>
    rw [hp]at x2
    go_wp2_with fail
    go_roundw
    case rel=>exact⟨k+1,by omega,by go_num,HSB,HUB,HBB,Lib.hid ⟨nM,D,HIB.out.skip HXK.out hp⟩,HMB⟩
    case measure=>simp [intOf];omega
   |true=>
    rw [hp]at x2
    have HOW:Hid (Wb.drew.ownsMap Tryz.prog 99 (plainElem Tryz.prog 3) M nM D/\nM<=4000000000000):=Lib.hid ⟨HIB.out.1.drew,by have:=HIB.out.2.1;omega⟩
    go_upto_region 9 with fail
    have K1:Hid (Wb.drew.cell? ⟨m,6,none⟩=some (.map (some M))/\Wb.drew.cell? ⟨wr.heap.size,0,none⟩=some (.string x.name)/\Wb.drew.cell? ⟨wr.heap.size,1,none⟩=some (.int .i64 x.arity)):=Lib.hid ⟨by simpa using i6,by simpa using x0,by simpa using x1⟩
    refine wp_region_P 11 (fun w'=>True) (fun w'=>w'.cell? ⟨m,6,none⟩=some (.map (some M))/\w'.cell? ⟨wr.heap.size,0,none⟩=some (.string x.name)/\w'.cell? ⟨wr.heap.size,1,none⟩=some (.int .i64 x.arity)) (by kernel_rfl) ⟨trivial,K1.out⟩ (fun hHeld=>?_)
    refine wpAnyP_lateA 0 hHeld ?_
    simp only [Act.put,List.setIfInBounds_toArray,List.set_cons_zero,List.set_cons_succ,List.getElem_toArray,List.getElem_cons_zero,List.getElem_cons_succ]
    refine wpAnyP_lateA 1 hHeld ?_
    simp only [Act.put,List.setIfInBounds_toArray,List.set_cons_zero,List.set_cons_succ,List.getElem_toArray,List.getElem_cons_zero,List.getElem_cons_succ]
    refine wpAnyP_lateA 2 hHeld ?_
    simp only [Act.put,List.setIfInBounds_toArray,List.set_cons_zero,List.set_cons_succ,List.getElem_toArray,List.getElem_cons_zero,List.getElem_cons_succ]
    refine wpAnyP_lateA 3 hHeld ?_
    simp only [Act.put,List.setIfInBounds_toArray,List.set_cons_zero,List.set_cons_succ,List.getElem_toArray,List.getElem_cons_zero,List.getElem_cons_succ]
    refine wpAnyP_earlyA [] 4 hHeld ?_
    simp only [Act.put,List.setIfInBounds_toArray,List.set_cons_zero,List.set_cons_succ,List.getElem_toArray,List.getElem_cons_zero,List.getElem_cons_succ]
    refine wpAnyP_lateA 5 hHeld ?_
    simp only [Act.put,List.setIfInBounds_toArray,List.set_cons_zero,List.set_cons_succ,List.getElem_toArray,List.getElem_cons_zero,List.getElem_cons_succ]
    refine wpAnyP_earlyA [] 6 hHeld ?_
    simp only [Act.put,List.setIfInBounds_toArray,List.set_cons_zero,List.set_cons_succ,List.getElem_toArray,List.getElem_cons_zero,List.getElem_cons_succ]
    refine wpAnyP_lateA 7 hHeld ?_
    simp only [Act.put,List.setIfInBounds_toArray,List.set_cons_zero,List.set_cons_succ,List.getElem_toArray,List.getElem_cons_zero,List.getElem_cons_succ]
    refine wpAnyP_earlyA [] 8 hHeld ?_
    simp only [Act.put,List.setIfInBounds_toArray,List.set_cons_zero,List.set_cons_succ,List.getElem_toArray,List.getElem_cons_zero,List.getElem_cons_succ]
    refine wpAnyP_lateA 9 hHeld ?_
    simp only [Act.put,List.setIfInBounds_toArray,List.set_cons_zero,List.set_cons_succ,List.getElem_toArray,List.getElem_cons_zero,List.getElem_cons_succ]
    refine wpAnyP_lateA 10 hHeld ?_
    simp only [Act.put,List.setIfInBounds_toArray,List.set_cons_zero,List.set_cons_succ,List.getElem_toArray,List.getElem_cons_zero,List.getElem_cons_succ]
    refine wpAnyP_endA 11 fun KK hK=>?_
    refine step_mapUpdate _ rfl _ _ _ 78 rfl 99 3 sigLaw Tryz.underlying78 _ M nM D rfl HOW.out.1 (by have:=HOW.out.2;unfold maxLen;omega) _ _ _ rfl rfl (keyOf_sig HXB.out.1 HXB.out.2) _ [] (plainElem_int Tryz.underlying3 (WalkArith.wf_i64 (by constructor<;>omega))) ?_
    intro w7 ho7 hg7
    refine hK.out _ _ trivial ?_
    clear hK KK
    try simp only [Act.put,List.setIfInBounds_toArray,List.set_cons_zero,List.set_cons_succ,List.getElem_toArray,List.getElem_cons_zero,List.getElem_cons_succ]
    refine wpAnyP_done (by kernel_rfl) ?_ _
    have hgb: ∀b,b<M->w7.heap[b]?=Wb.heap[b]?:=fun b hb=>hg7.block b (by have:=HM.out;have:=HMB.out;show b<Wb.heap.size;omega) (fun e=>by have:=Option.some.inj e;omega)
    have hgm:w7.heap[m]?=Wb.heap[m]?:=hg7.block m HMB.out (fun e=>by have:=Option.some.inj e;have:=HM.out;omega)
    have HS7:Hid (w7.heap[m]?=some (.cells #[.string u.mdl,.int .i64 u.vsn,.slice lo1 u.lits.length lc1,.slice (some ⟨b,0,none⟩) u.funcs.length fc1,.slice go1 u.funs.length gc1,.slice co1 u.code.length cc1,.map (some M)] 82 (0,0))):=Lib.hid (hgm.trans HSB.out)
    have HU7:Hid (UNew w7 f w2.heap.size M u lo1 (some ⟨b,0,none⟩) go1 co1):=Lib.hid (HUB.out.kept (fun b _ b2=>hgb b (by have:=HM.out;omega)) (Nat.le_refl _) (Nat.le_refl _))
    have HB7:Hid (Below w.heap.size w w7):=Lib.hid (HBB.out.drew.grown hg7 HBB.out.size (fun q e=>by have:=Option.some.inj e;have:=HM.out;omega))
    have HI7:Hid (∃nM D,IdxIs w7 M (k+1) u.funcs nM D):=Lib.hid ⟨_,_,HIB.out.put HXK.out hp HXB.out.1 HXB.out.2 ho7⟩
    have HM7:Hid (m<w7.heap.size):=Lib.hid (Nat.lt_of_lt_of_le HMB.out hg7.size)
    clear hgb hgm ho7 hg7 K1 hHeld HOW x0 x1 x2 i6
    go_wp2_with fail
    go_roundw
    case rel=>exact⟨k+1,by omega,by go_num,HS7,HU7,HB7,HI7,HM7⟩
    case measure=>simp [intOf];omega
  ·have hkl:k=u.funcs.length:=by omega
   subst hkl
   go_wp2_with fail
   rw [HQ.out]
   have hm:=HM.out
   exact⟨HBW.out,fun h=>absurd HV.out h,fun _=>⟨m,M,w2.heap.size,M,rfl,hm.2.2.1,lo1,lc1,fo1,fc1,go1,gc1,co1,cc1,HS.out,HU.out,Nat.le_refl _,hm.2.1,HI.out⟩⟩
set_option maxRecDepth 100000
theorem imgis_yes (b M:Nat) (w:World) (h:w.cell? ⟨b,6,none⟩=some (.map (some M))):Calls Tryz.prog 23 #[.pointer (some ⟨b,0,none⟩)] w fun e w'=>e= .returned (.bool true)/\w'=w:=by
 have hne:(binOp .neq 78 (.map (some M)) (.map none)).run Tryz.prog w= .ok (.bool true) w:=Go.run_neq_map_nil (P:=Tryz.prog) w 78 _ _ (some M) Tryz.underlying78
 go_in
 go_wp2_with fail
 go_ret
 exact⟨rfl,rfl⟩
theorem imgmodule_yes (b M:Nat) (s:ByteArray) (w:World) (h:w.cell? ⟨b,6,none⟩=some (.map (some M))) (h0:w.cell? ⟨b,0,none⟩=some (.string s)):Calls Tryz.prog 21 #[.pointer (some ⟨b,0,none⟩)] w fun e w'=>e= .returned (.string s)/\w'=w:=by
 have HI:=Lib.hid (imgis_yes b M w h)
 clear h
 go_in
 go_wp2_with fail
 refine HI.out.mono ?_
 rintro e w1 ⟨rfl,rfl⟩
 go_wp2_with fail
 go_ret
 exact⟨rfl,rfl⟩
open Go.RowKit Go.Maps Go.WideMaps
set_option maxRecDepth 100000
def ImgS (w:World) (m M:Nat) (u:RUnit):Prop:=
 ∃lo1 lc1 fo1 fc1 go1 gc1 co1 cc1,w.heap[m]?=some (.cells #[.string u.mdl,.int .i64 u.vsn,.slice lo1 u.lits.length lc1,.slice fo1 u.funcs.length fc1,.slice go1 u.funs.length gc1,.slice co1 u.code.length cc1,.map (some M)] 82 (0,0))/\ ∃nM D,IdxIs w M u.funcs.length u.funcs nM D
theorem ImgAt.img {w:World} {m M f lo hi:Nat} {u:RUnit} (h:ImgAt w m M f lo hi u):ImgS w m M u/\lo<=M/\M<m:=by
 obtain⟨lo1,lc1,fo1,fc1,go1,gc1,co1,cc1,h1,h2,h3,h4,h5⟩:=h
 have hl:lo<=hi:=by obtain⟨m1,m2,m3,b1,b2,b3,b4,-⟩:=h2;omega
 exact⟨⟨lo1,lc1,fo1,fc1,go1,gc1,co1,cc1,h1,h5⟩,by omega,h4⟩
theorem ImgS.grown {w w':World} {m M:Nat} {u:RUnit} {row:Option Nat} (h:ImgS w m M u) (hg:w.grownBy w' row) (h1:some m≠row) (h2:some M≠row):ImgS w' m M u:=by
 obtain⟨lo1,lc1,fo1,fc1,go1,gc1,co1,cc1,e,nM,D,hi,hr⟩:=h
 exact⟨lo1,lc1,fo1,fc1,go1,gc1,co1,cc1,(hg.block m (lt_of_row e) h1).trans e,nM,D,hi.kept hg h2,hr⟩
theorem ImgS.below {w w':World} {m M:Nat} {u:RUnit} (h:ImgS w m M u) (hb:Below w.heap.size w w'):ImgS w' m M u:=
 h.grown (row:=none) ⟨hb.os,hb.tape,hb.output,hb.size,fun k hk _=>hb.block k hk⟩ (by simp) (by simp)
theorem ImgS.mod {w:World} {m M:Nat} {u:RUnit} (h:ImgS w m M u):Calls Tryz.prog 21 #[.pointer (some ⟨m,0,none⟩)] w fun e w'=>e= .returned (.string u.mdl)/\w'=w:=by
 obtain⟨lo1,lc1,fo1,fc1,go1,gc1,co1,cc1,g1,-⟩:=h
 obtain⟨c0,-,-,-,-,-,c6⟩:=seven_cells' g1
 exact imgmodule_yes m M u.mdl w c6 c0
theorem imgvsn_yes (b M:Nat) (v:Int) (w:World) (h:w.cell? ⟨b,6,none⟩=some (.map (some M))) (h0:w.cell? ⟨b,1,none⟩=some (.int .i64 v)):Calls Tryz.prog 9 #[.pointer (some ⟨b,0,none⟩)] w fun e w'=>e= .returned (.int .i64 v)/\w'=w:=by
 have HI:=Lib.hid (imgis_yes b M w h)
 clear h
 go_in
 go_wp2_with fail
 refine HI.out.mono ?_
 rintro e w1 ⟨rfl,rfl⟩
 go_wp2_with fail
 go_ret
 exact⟨rfl,rfl⟩
theorem ImgS.vsn {w:World} {m M:Nat} {u:RUnit} (h:ImgS w m M u):Calls Tryz.prog 9 #[.pointer (some ⟨m,0,none⟩)] w fun e w'=>e= .returned (.int .i64 u.vsn)/\w'=w:=by
 obtain⟨lo1,lc1,fo1,fc1,go1,gc1,co1,cc1,g1,-⟩:=h
 obtain⟨-,c1,-,-,-,-,c6⟩:=seven_cells' g1
 exact imgvsn_yes m M u.vsn w c6 c1
theorem ImgS.find {w:World} {m M:Nat} {u:RUnit} (h:ImgS w m M u) (s:ByteArray) (a:Int) (hs:s.size<=maxLen) (ha:I64 a) (o:Option Nat) (ho:expK u.funcs u.funcs.length s a=o):Calls Tryz.prog 22 #[.pointer (some ⟨m,0,none⟩),.string s,.int .i64 a] w fun e w'=>e= .returned (.tuple #[.int .i64 (o.getD 0:Nat),.bool o.isSome])/\w'=w:=by
 obtain⟨lo1,lc1,fo1,fc1,go1,gc1,co1,cc1,g1,nM,D,hown,-,hx⟩:=h
 obtain⟨-,-,-,-,-,-,c6⟩:=seven_cells' g1
 have hk:=hx s a hs ha
 rw [ho]at hk
 have HI:=Lib.hid (imgis_yes m M w c6)
 refine zzK3 hk hown (And.intro hs ha) fun HK HOW HS=>?_
 clear hk hown hs ha g1 hx ho
 go_in
 go_wp2_with fail
 refine HI.out.mono ?_
 rintro e w1 ⟨rfl,rfl⟩
 go_wp2_with (at_lookup;refine wpList_lookup_own_ok_int _ rfl _ _ 78 rfl 99 3 .i64 sigLaw Tryz.underlying78 Tryz.underlying3 (zeroInt _) M nM D rfl HOW.out _ (sigKey s a) rfl (keyOf_sig HS.out.1 HS.out.2) ?_;intro c hc hwf;rw [HK.out.2];obtain rfl:((o.getD 0:Nat):Int)=c:=(by have h:=HK.out.1.symm.trans hc;injection h with h;injection h with h))
 go_ret2
 exact⟨rfl,rfl⟩
open Go.RowKit Go.Maps Go.WideMaps
set_option maxRecDepth 100000
def SrvAt (w:World) (s M n:Nat) (t:List UInt8->Option Value):Prop:=
 w.heap[s]?=some (.cells #[.map (some M)] 58 (0,0))/\MapO w M n t/\M<s
theorem SrvAt.grown {w w':World} {s M n:Nat} {t:List UInt8->Option Value} {row:Option Nat} (h:SrvAt w s M n t) (hg:w.grownBy w' row) (h1:some s≠row) (h2:some M≠row):SrvAt w' s M n t:=
 ⟨(hg.block s (lt_of_row h.1) h1).trans h.1,h.2.1.grown hg h2,h.2.2⟩
theorem SrvAt.below {w w':World} {s M n:Nat} {t:List UInt8->Option Value} (h:SrvAt w s M n t) (hb:Below w.heap.size w w'):SrvAt w' s M n t:=
 h.grown (row:=none) ⟨hb.os,hb.tape,hb.output,hb.size,fun k hk _=>hb.block k hk⟩ (by simp) (by simp)
theorem SrvAt.cell {w:World} {s M n:Nat} {t:List UInt8->Option Value} (h:SrvAt w s M n t):w.cell? ⟨s,0,none⟩=some (.map (some M)):=cell_of_row w s 0 _ _ _ h.1
theorem svnew_any (w:World):Calls Tryz.prog 5 #[] w fun e w'=>e= .returned (.pointer (some ⟨w.heap.size+1,0,none⟩))/\SrvAt w' (w.heap.size+1) w.heap.size 0 (fun _=>none)/\Below w.heap.size w w':=by
 have hmm:= @run_makeMap Tryz.prog
 have hsz:(w.alloc (.map #[] 0)).heap.size=w.heap.size+1:=by simp
 have hn:=heap_alloc_new (w.alloc (.map #[] 0)) (.cells #[.map (some w.heap.size)] 58)
 rw [hsz]at hn
 have hb:Below w.heap.size w ((w.alloc (.map #[] 0)).alloc (.cells #[.map (some w.heap.size)] 58)):=(zzE _ _).alloc (by omega) _
 have hmap:=(MapO.made w).below (((Below.refl _ _).alloc (Nat.le_refl _) (.cells #[.map (some w.heap.size)] 58)))
 refine zzK3 hn hb hmap fun HN HB HM=>?_
 clear hsz hn hb hmap
 go_in
 go_wp2_with fail
 go_ret
 exact⟨rfl,⟨HN.out,HM.out,Nat.lt_succ_self _⟩,HB.out⟩
theorem svmade_yes (s M:Nat) (w:World) (h:w.cell? ⟨s,0,none⟩=some (.map (some M))):Calls Tryz.prog 19 #[.pointer (some ⟨s,0,none⟩)] w fun e w'=>e= .returned (.bool true)/\w'=w:=by
 have hne:(binOp .neq 56 (.map (some M)) (.map none)).run Tryz.prog w= .ok (.bool true) w:=Go.run_neq_map_nil (P:=Tryz.prog) w 56 _ _ (some M) Tryz.underlying56
 go_in
 go_wp2_with fail
 go_ret
 exact⟨rfl,rfl⟩
def FindQ (c o:Option Addr) (g:Int) (w:World) (e:Ending) (w':World):Prop:=e= .returned (.agg #[.pointer c,.pointer o,.int .i64 g])/\Below w.heap.size w w'
theorem svfind_yes (s M n:Nat) (t:List UInt8->Option Value) (x:ByteArray) (c o:zzA) (g:Int) (w:World) (h:SrvAt w s M n t) (hx:x.size<=maxLen) (hv:(t x.data.toList).getD (modV none none 0)=modV c o g):
  Calls Tryz.prog 24 #[.pointer (some ⟨s,0,none⟩),.string x] w (FindQ c o g w):=by
 have hb:=(Below.refl w.heap.size w).alloc (Nat.le_refl _) (.cells #[.pointer none,.pointer none,.int .i64 0] 64)
 have hr:=heap_alloc_new w (.cells #[.pointer none,.pointer none,.int .i64 0] 64)
 have h1:=h.below hb
 have HM:=Lib.hid (svmade_yes s M _ h1.cell)
 have c0:=h1.cell
 refine zzK5 h1 hx hv hb hr fun HS HX HV HB HR=>?_
 clear h hx hv hb hr h1
 go_in
 go_upto_region 1 with fail
 generalize w.alloc _=W at *
 go_wp2_with (first|(go_at_call 19;refine HM.out.mono ?_;rintro e w1 ⟨rfl,rfl⟩)|(at_lookup;refine wpList_look_O rfl _ _ rfl rfl HS.out.2.1 x rfl HX.out _ HV.out ?_;unfold modV;have r0:=cell_of_row _ _ 0 _ _ _ HR.out;have r1:=cell_of_row _ _ 1 _ _ _ HR.out;have r2:=cell_of_row _ _ 2 _ _ _ HR.out)|(refine wpList_store_row rfl 64 _ _ rfl w.heap.size _ rfl rfl 64 _ HR.out (by kernel_rfl) rfl (by simp [Value.oneCell']) ?_)|fail)
 refine bodyPost_ret (results_cell_row rfl _ _ w.heap.size _ _ _ _ rfl (setRow_heap _ _ _ _ _ _ HR.out) Tryz.underlying64 rfl (by kernel_rfl)) rfl ?_
 exact⟨rfl,below_setRow HB.out (Nat.le_refl _) _⟩
open Go.RowKit Go.Maps Go.WideMaps
set_option maxRecDepth 100000
def Finds (p:Option Addr) (x:ByteArray) (c o:Option Addr) (g:Int) (w:World):Prop:= ∀wx,Below w.heap.size w wx->Calls Tryz.prog 24 #[.pointer p,.string x] wx (FindQ c o g wx)
theorem Finds.below {p:zzA} {x:ByteArray} {c o:zzA} {g:Int} {w w':World} (h:Finds p x c o g w) (hb:Below w.heap.size w w'):Finds p x c o g w':=fun wx hx=>h wx (below_next hb hx)
theorem SrvAt.finds {w:World} {s M n:Nat} {t:List UInt8->Option Value} (h:SrvAt w s M n t) {x:ByteArray} (hx:x.size<=maxLen) {c o:zzA} {g:Int} (hv:(t x.data.toList).getD (modV none none 0)=modV c o g):Finds (some ⟨s,0,none⟩) x c o g w:=fun wx hb=>svfind_yes s M n t x c o g wx (h.below hb) hx hv
theorem svcurrent_any (p:zzA) (x:ByteArray) (c o:zzA) (g:Int) (w:World) (h:Finds p x c o g w):
  Calls Tryz.prog 17 #[.pointer p,.string x] w fun e w'=>e= .returned (.tuple #[.pointer c,.bool c.isSome])/\Below w.heap.size w w':=by
 have HF:=Lib.hid (h _ (Below.refl _ _))
 clear h
 go_in
 go_upto_region 2 with(first|(go_at_call 24;refine HF.out.mono ?_;rintro e w1 ⟨rfl,hb1⟩)|fail)
 have hn:=heap_alloc_new w1 (.cells #[.pointer c,.pointer o,.int .i64 g] 64)
 have HB:=Lib.hid (hb1.alloc hb1.size (.cells #[.pointer c,.pointer o,.int .i64 g] 64))
 generalize w1.alloc _=W at *
 have r0:=cell_of_row _ _ 0 _ _ _ hn
 clear hb1 hn
 cases c with
 |none=>
  go_quiet (fail)
  go_wp2_with fail
  go_ret2
  exact⟨rfl,below_drewN HB.out _⟩
 |some c=>
  go_quiet (fail)
  go_wp2_with fail
  go_ret2
  exact⟨rfl,below_drewN HB.out _⟩
def Vsns (q:Addr) (v:Int) (w:World):Prop:= ∀wx,Below w.heap.size w wx->Calls Tryz.prog 9 #[.pointer (some q)] wx fun e w'=>e= .returned (.int .i64 v)/\w'=wx
theorem ImgS.vsns {w:World} {m M:Nat} {u:RUnit} (h:ImgS w m M u):Vsns ⟨m,0,none⟩ u.vsn w:=fun wx hx=>(h.below hx).vsn
theorem svold_some (p:zzA) (x:ByteArray) (c:zzA) (q:Addr) (v g:Int) (w:World) (h:Finds p x c (some q) g w) (hq:Vsns q v w):
  Calls Tryz.prog 10 #[.pointer p,.string x] w fun e w'=>e= .returned (.tuple #[.int .i64 v,.bool true])/\Below w.heap.size w w':=by
 have HF:=Lib.hid (h _ (Below.refl _ _));have HQ:=Lib.hid hq
 clear h hq
 go_in
 go_upto_region 2 with(first|(go_at_call 24;refine HF.out.mono ?_;rintro e w1 ⟨rfl,hb1⟩)|fail)
 have hn:=heap_alloc_new w1 (.cells #[.pointer c,.pointer (some q),.int .i64 g] 64)
 have HB:=Lib.hid (hb1.alloc hb1.size (.cells #[.pointer c,.pointer (some q),.int .i64 g] 64))
 generalize w1.alloc _=W at *
 have r1:=cell_of_row _ _ 1 _ _ _ hn
 have HV:=Lib.hid (HQ.out W HB.out)
 clear hb1 hn
 go_wp2_with (first|(go_at_call 9;refine HV.out.mono ?_;rintro e w2 ⟨rfl,rfl⟩)|fail)
 go_ret2
 exact⟨rfl,HB.out⟩
open Go.RowKit Go.Maps Go.WideMaps
set_option maxRecDepth 100000
def NotV (q:Option Addr) (v:Int) (w:World):Prop:= ∀a,q=some a-> ∃u,Vsns a u w/\u≠v
theorem NotV.none (v:Int) (w:World):NotV none v w:=fun a h=>by cases h
theorem svversion_no (p:zzA) (x:ByteArray) (c o:zzA) (g v:Int) (w:World) (h:Finds p x c o g w) (hc:NotV c v w) (ho:NotV o v w):
  Calls Tryz.prog 12 #[.pointer p,.string x,.int .i64 v] w fun e w'=>e= .returned (.tuple #[.pointer none,.bool false])/\Below w.heap.size w w':=by
 have HF:=Lib.hid (h _ (Below.refl _ _))
 have HC:=Lib.hid hc;have HO:=Lib.hid ho
 clear h hc ho
 go_in
 go_upto_region 2 with(first|(go_at_call 24;refine HF.out.mono ?_;rintro e w1 ⟨rfl,hb1⟩)|fail)
 have hn:=heap_alloc_new w1 (.cells #[.pointer c,.pointer o,.int .i64 g] 64)
 have HB:=Lib.hid (hb1.alloc hb1.size (.cells #[.pointer c,.pointer o,.int .i64 g] 64))
 generalize w1.alloc _=W at *
 have r0:=cell_of_row _ _ 0 _ _ _ hn
 have r1:=cell_of_row _ _ 1 _ _ _ hn
 have hl:=heap_alloc_new W (.cells #[.pointer c,.pointer o] 62)
 have HB2:=Lib.hid (HB.out.alloc HB.out.size (.cells #[.pointer c,.pointer o] 62))
 have HL:=Lib.hid hl
 clear hl hb1 hn
 go_wp2_with fail
 generalize W.alloc _=W2 at *
 go_loopw [20] (fun kv wr=> ∃k:Nat,k<=2/\kv= .int .i64 k/\Hid (Below W2.heap.size W2 wr)) (fun kv _=>2-(intOf kv).toNat)
 case atStart=>exact⟨0,by omega,rfl,Lib.hid (Below.refl _ _)⟩
 case round=>
  obtain⟨k,hk,rfl,HBr⟩:=hrel
  rename World=>wr
  by_cases hlt:k<2
  ·have t1:decide ((k:Int)<2)=true:=decide_eq_true (by omega)
   obtain⟨q,hq,hno⟩: ∃q:Option Addr,wr.cell? ⟨W.heap.size,k,none⟩=some (.pointer q)/\NotV q v w:=by
    have hr:=(HBr.out.block _ (lt_of_row HL.out)).trans HL.out
    rcases(show k=0\/k=1 by omega)with rfl|rfl
    ·exact⟨c,cell_of_row _ _ 0 _ _ _ hr,HC.out⟩
    ·exact⟨o,cell_of_row _ _ 1 _ _ _ hr,HO.out⟩
   have hbw:=HB2.out.trans (HBr.out.mono HB2.out.size)
   have hbx:=heap_alloc_new wr (.cells #[.pointer q] 62)
   have hba:=(Below.refl wr.heap.size wr).alloc (Nat.le_refl _) (.cells #[.pointer q] 62)
   have HBA:=Lib.hid (HBr.out.trans (hba.mono HBr.out.size))
   have HNO:=Lib.hid hno
   go_upto_region 5 with fail
   generalize wr.alloc _=Wb at *
   have x0:=cell_of_row _ _ 0 _ _ _ hbx
   have HBW:=Lib.hid (hbw.trans (hba.mono hbw.size))
   clear hq hno hbw hbx hba
   cases q with
   |none=>
    go_wp2_with fail
    go_roundw
    case rel=>exact⟨k+1,by omega,by go_num,HBA⟩
    case measure=>simp [intOf];omega
   |some a=>
    obtain⟨u,hu,hne⟩:=HNO.out a rfl
    have t2:(u==v)=false:=by simpa using hne
    have HU:=Lib.hid (hu Wb HBW.out)
    clear hu hne
    go_wp2_with (first|(go_at_call 9;refine HU.out.mono ?_;rintro e w2 ⟨rfl,rfl⟩)|fail)
    go_roundw
    case rel=>exact⟨k+1,by omega,by go_num,HBA⟩
    case measure=>simp [intOf];omega
  ·obtain rfl:k=2:=by omega
   go_wp2_with fail
   go_ret2
   exact⟨rfl,HB2.out.trans (HBr.out.mono HB2.out.size)⟩
open Go.RowKit Go.Maps Go.WideMaps
set_option maxRecDepth 100000
def FindfQ (m:Nat) (r:Option Nat) (w:World) (e:Ending) (w':World):Prop:=
 (match r with
 |none=>e= .returned (.tuple #[.pointer none,.int .i64 0,.int .i64 4])
 |some i=>e= .returned (.tuple #[.pointer (some ⟨m,0,none⟩),.int .i64 (i:Nat),.int .i64 0]))/\Below w.heap.size w w'
theorem svfindf_any (s M n m Mi:Nat) (u:RUnit) (t:List UInt8->Option Value) (x f:ByteArray) (a:Int) (o:zzA) (g:Int) (r:Option Nat) (w:World) (h:SrvAt w s M n t) (hx:x.size<=maxLen) (hv:(t x.data.toList).getD (modV none none 0)=modV (some ⟨m,0,none⟩) o g) (hi:ImgS w m Mi u) (hf:f.size<=maxLen) (ha:I64 a) (hr:expK u.funcs u.funcs.length f a=r):
  Calls Tryz.prog 8 #[.pointer (some ⟨s,0,none⟩),.string x,.string f,.int .i64 a] w (FindfQ m r w):=by
 have HM:=Lib.hid (svmade_yes s M w h.cell)
 have HC:=Lib.hid (svcurrent_any (some ⟨s,0,none⟩) x (some ⟨m,0,none⟩) o g w (h.finds hx hv))
 have HI:=Lib.hid (fun wx (hb:Below w.heap.size w wx)=>(hi.below hb).find f a hf ha r hr)
 clear h hx hv hi hf ha hr
 go_in
 go_upto_region 6 with(first|(go_at_call 19;refine HM.out.mono ?_;rintro e w1 ⟨rfl,rfl⟩)|(go_at_call 17;refine HC.out.mono ?_;rintro e w2 ⟨rfl,hb2⟩)|fail)
 have HF:=Lib.hid (HI.out w2 hb2)
 cases r with
 |none=>
  go_wp2_with (first|(go_at_call 22;refine HF.out.mono ?_;rintro e w3 ⟨rfl,rfl⟩)|fail)
  go_ret3
  exact⟨rfl,hb2⟩
 |some i=>
  go_wp2_with (first|(go_at_call 22;refine HF.out.mono ?_;rintro e w3 ⟨rfl,rfl⟩)|fail)
  go_ret3
  exact⟨rfl,hb2⟩
theorem svpurge_none (s M n:Nat) (t:List UInt8->Option Value) (x:ByteArray) (c:zzA) (g:Int) (w:World) (h:SrvAt w s M n t) (hx:x.size<=maxLen) (hv:(t x.data.toList).getD (modV none none 0)=modV c none g):
  Calls Tryz.prog 11 #[.pointer (some ⟨s,0,none⟩),.string x] w fun e w'=>e= .returned (.int .i64 4)/\Below w.heap.size w w':=by
 have HM:=Lib.hid (svmade_yes s M w h.cell)
 have c0:=h.cell
 refine zzK3 h hx hv fun HS HX HV=>?_
 clear h hx hv
 go_in
 go_upto_region 4 with(first|(go_at_call 19;refine HM.out.mono ?_;rintro e w1 ⟨rfl,rfl⟩)|(at_lookup;refine wpList_look_O rfl _ _ rfl rfl HS.out.2.1 x rfl HX.out _ HV.out ?_;unfold modV)|fail)
 have hn:=heap_alloc_new w1 (.cells #[.pointer c,.pointer none,.int .i64 g] 64)
 have HB:=Lib.hid ((Below.refl w1.heap.size w1).alloc (Nat.le_refl _) (.cells #[.pointer c,.pointer none,.int .i64 g] 64))
 generalize w1.alloc _=W at *
 have r1:=cell_of_row _ _ 1 _ _ _ hn
 go_wp2_with fail
 go_ret
 exact⟨rfl,HB.out⟩
open Go.RowKit Go.Maps Go.WideMaps
set_option maxRecDepth 100000
theorem nine_cells' {w:World} {b:Nat} {T:TypeId} {v0 v1 v2 v3 v4 v5 v6 v7 v8:Value} (h:w.heap[b]?=some (.cells #[v0,v1,v2,v3,v4,v5,v6,v7,v8] T (0,0))):
  w.cell? ⟨b,0,none⟩=some v0/\w.cell? ⟨b,1,none⟩=some v1/\w.cell? ⟨b,2,none⟩=some v2/\w.cell? ⟨b,3,none⟩=some v3/\w.cell? ⟨b,4,none⟩=some v4/\w.cell? ⟨b,5,none⟩=some v5/\w.cell? ⟨b,6,none⟩=some v6/\w.cell? ⟨b,7,none⟩=some v7/\w.cell? ⟨b,8,none⟩=some v8:=by
 have hc:=fun j=>cell_of_row w b j _ _ _ h
 exact⟨hc 0,hc 1,hc 2,hc 3,hc 4,hc 5,hc 6,hc 7,hc 8⟩
theorem svfun_kind (s M n:Nat) (t:List UInt8->Option Value) (k i g ar bt:Int) (nm fn by':ByteArray) (so:zzA) (sn sc:Nat) (w:World) (h:SrvAt w s M n t) (hk:k≠4):
  Calls Tryz.prog 13 #[.pointer (some ⟨s,0,none⟩),.agg #[.int .i64 k,.int .i64 i,.int .i64 g,.string nm,.string fn,.int .i64 ar,.slice so sn sc,.string by',.int .i64 bt]] w fun e w'=>e= .returned (.tuple #[.pointer none,.int .i64 0,.int .i64 2])/\Below w.heap.size w w':=by
 have hb:=(Below.refl w.heap.size w).alloc (Nat.le_refl _) (.cells #[.int .i64 k,.int .i64 i,.int .i64 g,.string nm,.string fn,.int .i64 ar,.slice so sn sc,.string by',.int .i64 bt] 44)
 have hr:=heap_alloc_new w (.cells #[.int .i64 k,.int .i64 i,.int .i64 g,.string nm,.string fn,.int .i64 ar,.slice so sn sc,.string by',.int .i64 bt] 44)
 have HM:=Lib.hid (svmade_yes s M _ (h.below hb).cell)
 have HB:=Lib.hid hb;have HR:=Lib.hid hr
 have k4 : (k != 4) = true := by simpa using hk
 clear hb hr h hk
 go_in
 go_upto_region 1 with fail
 generalize w.alloc _=W at *
 obtain⟨c0,c1,c2,c3,c4,c5,c6,c7,c8⟩:=nine_cells' HR.out
 go_wp2_with (first|(go_at_call 19;refine HM.out.mono ?_;rintro e w1 ⟨rfl,rfl⟩)|fail)
 go_ret3
 exact⟨rfl,HB.out⟩
theorem svfun_none (s M n:Nat) (t:List UInt8->Option Value) (f:Nat) (x:Tm) (so:zzA) (sc:Nat) (c o:zzA) (g:Int) (w:World) (h:SrvAt w s M n t) (hk:x.kind=4) (hv:validF (f+1) x=true) (hi:SlAt w 9 (TmAt w f) so x.items) (hok:x.Ok) (hcp:(capF (f+1) x:Int)<=1152921504606846976)
  (hf:Finds (some ⟨s,0,none⟩) x.name c o g w) (hc:NotV c x.gen w) (ho:NotV o x.gen w):
  Calls Tryz.prog 13 #[.pointer (some ⟨s,0,none⟩),.agg #[.int .i64 x.kind,.int .i64 x.int,.int .i64 x.gen,.string x.name,.string x.func,.int .i64 x.arity,.slice so x.items.length sc,.string x.bytes,.int .i64 x.bits]] w fun e w'=>e= .returned (.tuple #[.pointer none,.int .i64 0,.int .i64 4])/\Below w.heap.size w w':=by
 have hb:=(Below.refl w.heap.size w).alloc (Nat.le_refl _) (.cells #[.int .i64 x.kind,.int .i64 x.int,.int .i64 x.gen,.string x.name,.string x.func,.int .i64 x.arity,.slice so x.items.length sc,.string x.bytes,.int .i64 x.bits] 44)
 have hr:=heap_alloc_new w (.cells #[.int .i64 x.kind,.int .i64 x.int,.int .i64 x.gen,.string x.name,.string x.func,.int .i64 x.arity,.slice so x.items.length sc,.string x.bytes,.int .i64 x.bits] 44)
 have HM:=Lib.hid (svmade_yes s M _ (h.below hb).cell)
 have hva:=tvalid_any f x so sc _ (hi.tms hb) hok hcp
 rw [hv]at hva
 have HVA:=Lib.hid hva
 have HVR:=Lib.hid (fun wx (hx:Below w.heap.size w wx)=>svversion_no (some ⟨s,0,none⟩) x.name c o g x.gen wx (hf.below hx) (fun a e=>by obtain⟨u,h1,h2⟩:=hc a e;exact⟨u,fun wy hy=>h1 wy (below_next hx hy),h2⟩) (fun a e=>by obtain⟨u,h1,h2⟩:=ho a e;exact⟨u,fun wy hy=>h1 wy (below_next hx hy),h2⟩))
 have HB:=Lib.hid hb;have HR:=Lib.hid hr
 have k4 : (x.kind != 4) = false := by rw [hk]; rfl
 clear hb hr h hk hv hi hok hcp hva hf hc ho
 go_in
 go_upto_region 1 with fail
 generalize w.alloc _=W at *
 obtain⟨c0,c1,c2,c3,c4,c5,c6,c7,c8⟩:=nine_cells' HR.out
 go_upto_region 5 with(first|(go_at_call 19;refine HM.out.mono ?_;rintro e w1 ⟨rfl,rfl⟩)|(go_at_call 25;refine HVA.out.mono ?_;rintro e w2 ⟨rfl,hb2⟩)|fail)
 have hr2:=(hb2.block _ (lt_of_row HR.out)).trans HR.out
 have HB2:=Lib.hid (HB.out.trans (hb2.mono HB.out.size))
 clear hb2 c0 c1 c2 c3 c4 c5 c6 c7 c8
 obtain⟨c0,c1,c2,c3,c4,c5,c6,c7,c8⟩:=nine_cells' hr2
 have HV2:=Lib.hid (HVR.out w2 HB2.out)
 go_wp2_with (first|(go_at_call 12;refine HV2.out.mono ?_;rintro e w3 ⟨rfl,hb3⟩)|fail)
 go_ret3
 exact⟨rfl,HB2.out.trans (hb3.mono HB2.out.size)⟩
end Go.Proofs.YtponljdhfoipjaaGreatDoor
