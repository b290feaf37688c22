import Derived.Test.YtponljdhfoipjaaGreatDoorW13
namespace Go.Proofs.YtponljdhfoipjaaGreatDoor
open Go.RowKit
set_option linter.unusedVariables false
set_option linter.unusedSimpArgs false
set_option maxRecDepth 100000
set_option maxHeartbeats 0
open Go.RowKit Go.Maps Go.WideMaps
set_option maxRecDepth 100000
theorem wp_store_O {w:World} {o:Oper} {a:Act} {K:Act->World->Prop} {Q:Exit->Act->World->Prop} (m xo vo:Operand) (hop:o.op=Op.mapUpdate 56 m xo vo) {M n:Nat} {t:List UInt8->Option Value} (hm:a.eval m= .map (some M)) (hM:MapO w M n t) (hn:n<maxLen) (x:ByteArray) (v:Value) (hx:a.eval xo= .string x) (hs:x.size<=maxLen) (hv:a.eval vo=v)
  (hK: ∀w',MapO w' M (n+1) (putO t x.data.toList v)->w.grownBy w' (some M)->K (a.put o.dst undef) w'):Oper.wp Tryz.prog o a w K Q:=by
 obtain⟨D,hown,hD⟩:=hM
 obtain⟨w',hrun,r1,r2⟩:=hown.update strLawO Tryz.underlying56 hn (keyO x hs) (d:=.held v) (ps:=[]) rfl
 unfold Oper.wp
 simp [execOp,hop,hm,hx,hv,hrun,Result.andThen]
 exact hK w' (MapO.put hown.isMap hD _ v r1) r2
theorem svpurge_some (s M n:Nat) (t:List UInt8->Option Value) (x:ByteArray) (c:zzA) (q:Addr) (g:Int) (w:World) (h:SrvAt w s M n t) (hn:n<=1000) (hx:x.size<=maxLen) (hv:(t x.data.toList).getD (modV none none 0)=modV c (some q) g):
  Calls Tryz.prog 11 #[.pointer (some ⟨s,0,none⟩),.string x] w fun e w'=>e= .returned (.int .i64 0)/\SrvAt w' s M (n+1) (putO t x.data.toList (modV c none g))/\w.grownBy w' (some M):=by
 have HM:=Lib.hid (svmade_yes s M w h.cell)
 have c0:=h.cell
 refine zzK3 h hx hv fun HS HX HV=>?_
 have HN:Hid (n<maxLen):=Lib.hid (by unfold maxLen;omega)
 clear h hx hv hn
 go_in
 go_upto_region 4 with(first|(go_at_call 19;refine HM.out.mono ?_;rintro e w1 ⟨rfl,rfl⟩)|(at_lookup;refine wpList_look_O rfl _ _ rfl rfl HS.out.2.1 x rfl HX.out _ HV.out ?_;unfold modV)|fail)
 have hn:=heap_alloc_new w1 (.cells #[.pointer c,.pointer none,.int .i64 g] 64)
 have hr:=heap_alloc_new w1 (.cells #[.pointer c,.pointer (some q),.int .i64 g] 64)
 have hba:=(Below.refl w1.heap.size w1).alloc (Nat.le_refl _) (.cells #[.pointer c,.pointer (some q),.int .i64 g] 64)
 generalize w1.alloc (.cells #[.pointer c,.pointer (some q),.int .i64 g] 64)=W at *
 obtain⟨r0,r1,r2⟩:=(fun j=>cell_of_row W w1.heap.size j _ _ _ hr: ∀j,_) |> fun hc=>(⟨hc 0,hc 1,hc 2⟩:_/\_/\_)
 have z1:=frozen_of_row W w1.heap.size 1 _ _ hr
 have hr2:(World.setCell W ⟨w1.heap.size,1,none⟩ (.pointer none)).heap[w1.heap.size]?=some (.cells #[.pointer c,.pointer none,.int .i64 g] 64 (0,0)):=heap_setCell_same _ w1.heap.size 1 _ _ _ hr
 have hb2:Below w1.heap.size w1 (W.setCell ⟨w1.heap.size,1,none⟩ (.pointer none)):=hba.setCell (p:=⟨w1.heap.size,1,none⟩) (Nat.le_refl _) _
 have hS2:=HS.out.below hb2
 refine zzK3 hS2 hb2 hr2 fun HS2 HB2 HR2=>?_
 clear hn hr hba hr2 hb2 hS2
 go_upto_region 7 with fail
 generalize World.setCell _ _ _=W2 at *
 clear r0 r1 r2 z1 c0
 have c0:=HS2.out.cell
 have HD:=Lib.hid ((Below.refl W2.heap.size W2).drew)
 have HRD:Hid (W2.drew.heap[w1.heap.size]?=some (.cells #[.pointer c,.pointer none,.int .i64 g] 64 (0,0))):=Lib.hid HR2.out
 have e0:W2.cell? ⟨w1.heap.size,0,none⟩=some (.pointer c):=cell_of_row W2 w1.heap.size 0 _ _ _ HR2.out
 have e1:W2.cell? ⟨w1.heap.size,1,none⟩=some (.pointer none):=cell_of_row W2 w1.heap.size 1 _ _ _ HR2.out
 have e2:W2.cell? ⟨w1.heap.size,2,none⟩=some (.int .i64 g):=cell_of_row W2 w1.heap.size 2 _ _ _ HR2.out
 have HI3:Hid ((Tryz.prog.info? 64).map (·.size)=some 3):=Lib.hid (by kernel_rfl)
 refine wp_region_P 6 (fun w'=>True) (fun w'=>w'=W2.drew) (by kernel_rfl) ⟨trivial,rfl⟩ (fun hHeld=>?_)
 refine wpAnyP_lateA 0 hHeld ?_
 simp only [Act.put,List.setIfInBounds_toArray,List.set_cons_zero,List.set_cons_succ,List.getElem_toArray,List.getElem_cons_zero,List.getElem_cons_succ]
 refine wpAnyP_lateA 1 hHeld ?_
 simp only [Act.put,List.setIfInBounds_toArray,List.set_cons_zero,List.set_cons_succ,List.getElem_toArray,List.getElem_cons_zero,List.getElem_cons_succ]
 refine wpAnyP_lateA 2 hHeld ?_
 simp only [Act.put,List.setIfInBounds_toArray,List.set_cons_zero,List.set_cons_succ,List.getElem_toArray,List.getElem_cons_zero,List.getElem_cons_succ]
 refine wpAnyP_earlyA [] 3 hHeld ?_
 simp only [Act.put,List.setIfInBounds_toArray,List.set_cons_zero,List.set_cons_succ,List.getElem_toArray,List.getElem_cons_zero,List.getElem_cons_succ]
 refine wpAnyP_lateA 4 hHeld ?_
 simp only [Act.put,List.setIfInBounds_toArray,List.set_cons_zero,List.set_cons_succ,List.getElem_toArray,List.getElem_cons_zero,List.getElem_cons_succ]
 refine wpAnyP_earlyA [] 5 hHeld ?_
 simp only [Act.put,List.setIfInBounds_toArray,List.set_cons_zero,List.set_cons_succ,List.getElem_toArray,List.getElem_cons_zero,List.getElem_cons_succ]
 refine wpAnyP_endA 6 fun KK hK=>?_
 refine wp_store_O _ _ _ rfl rfl (HS2.out.below HD.out).2.1 HN.out x _ rfl HX.out rfl ?_
 intro w3 hm3 hg3
 refine hK.out _ _ trivial ?_
 clear hK KK
 try simp only [Act.put,List.setIfInBounds_toArray,List.set_cons_zero,List.set_cons_succ,List.getElem_toArray,List.getElem_cons_zero,List.getElem_cons_succ]
 refine wpAnyP_done (by kernel_rfl) ?_ _
 go_wp2_with fail
 go_ret
 have hgw:w1.grownBy w3 (some M):=grownBy_trans (grownBy_below HB2.out _) (grownBy_trans (grownBy_drew (grownBy_refl _ _)) hg3)
 exact⟨rfl,⟨(hg3.block s (by show s<W2.heap.size;exact lt_of_row HS2.out.1) (fun e=>by have:=Option.some.inj e;have:=HS2.out.2.2;omega)).trans HS2.out.1,hm3,HS2.out.2.2⟩,hgw⟩
def LoadsS (R:Array Value) (u:RUnit) (w:World):Prop:= ∀wx,Below w.heap.size w wx->Calls Tryz.prog 20 #[.agg R] wx fun e w'=>Below wx.heap.size wx w'/\ ∃m Mi,e= .returned (.tuple #[.pointer (some ⟨m,0,none⟩),.int .i64 0])/\wx.heap.size<=Mi/\Mi<m/\ImgS w' m Mi u
def SvLoadQ (s M n:Nat) (t:List UInt8->Option Value) (u:RUnit) (c o:Option Addr) (g:Int) (b:Bool) (w:World) (e:Ending) (w':World):Prop:=
 if(b&&decide (u.vsn<=g))=true then e= .returned (.int .i64 271)/\Below w.heap.size w w' else if o.isSome=true then e= .returned (.int .i64 270)/\Below w.heap.size w w' else
  e= .returned (.int .i64 0)/\ ∃m Mi,w.heap.size<=Mi/\Mi<m/\ImgS w' m Mi u/\SrvAt w' s M (n+1) (putO t u.mdl.data.toList (modV (some ⟨m,0,none⟩) c u.vsn))/\w.grownBy w' (some M)
theorem svload_any (s M n:Nat) (t:List UInt8->Option Value) (u:RUnit) (c o:zzA) (g:Int) (b:Bool) (lo fo go co:zzA) (lc fc gc cc:Nat) (w:World) (h:SrvAt w s M n t) (hn:n<=1000) (hx:u.mdl.size<=maxLen) (hv:(t u.mdl.data.toList).getD (modV none none 0)=modV c o g) (hb:(t u.mdl.data.toList).isSome=b) (hl:LoadsS #[.string u.mdl,.int .i64 u.vsn,.slice lo u.lits.length lc,.slice fo u.funcs.length fc,.slice go u.funs.length gc,.slice co u.code.length cc] u w):
  Calls Tryz.prog 6 #[.pointer (some ⟨s,0,none⟩),.agg #[.string u.mdl,.int .i64 u.vsn,.slice lo u.lits.length lc,.slice fo u.funcs.length fc,.slice go u.funs.length gc,.slice co u.code.length cc]] w (SvLoadQ s M n t u c o g b w):=by
 have hba:=(Below.refl w.heap.size w).alloc (Nat.le_refl _) (.cells #[.string u.mdl,.int .i64 u.vsn,.slice lo u.lits.length lc,.slice fo u.funcs.length fc,.slice go u.funs.length gc,.slice co u.code.length cc] 31)
 have hrw:=heap_alloc_new w (.cells #[.string u.mdl,.int .i64 u.vsn,.slice lo u.lits.length lc,.slice fo u.funcs.length fc,.slice go u.funs.length gc,.slice co u.code.length cc] 31)
 have h1:=h.below hba
 have HM:=Lib.hid (svmade_yes s M _ h1.cell)
 have HL:=Lib.hid (hl _ hba)
 refine zzK6 h1 hx hv hb hba hrw fun HS HX HV HB HBA HRW=>?_
 have HN:Hid (n<maxLen):=Lib.hid (by unfold maxLen;omega)
 have HLT:=Lib.hid h.2.1.lt
 clear h hx hv hn hb hl hba h1 hrw
 obtain⟨Q,hQ⟩: ∃Q,Q=SvLoadQ s M n t u c o g b w:=⟨_,rfl⟩
 rw [<-hQ]
 have HQ:=Lib.hid hQ
 clear hQ
 go_in
 go_upto_region 1 with fail
 generalize w.alloc _=W at *
 obtain⟨c0,c1,c2,c3,c4,c5⟩:=six_cells HRW.out
 go_upto_region 6 with(first|(go_at_call 19;refine HM.out.mono ?_;rintro e w1 ⟨rfl,e1⟩;subst e1)|(go_at_call 20;refine HL.out.mono ?_;rintro e w2 ⟨hb2,m,Mi,rfl,hm1,hm2,him⟩)|fail)
 clear c0 c1 c2 c3 c4 c5 HM HL
 have HS2:=Lib.hid (HS.out.below hb2)
 have HB2:=Lib.hid (HBA.out.trans (hb2.mono HBA.out.size))
 have HMI:Hid (w.heap.size<=Mi/\Mi<m):=Lib.hid ⟨by have:=HBA.out.size;omega,hm2⟩
 have HIM:=Lib.hid him
 clear hb2 hm1 hm2 him
 have HD:=Lib.hid ((Below.refl w2.heap.size w2).drew)
 go_cut [7,8]from 20 to 29 (fun p v wx=>p= .pointer (some ⟨w2.heap.size,0,none⟩)/\v= .bool b/\Hid (wx.heap[w2.heap.size]?=some (.cells #[.pointer c,.pointer o,.int .i64 g] 64 (0,0)))/\Hid (Below w2.heap.size w2 wx))
 case first=>
  have HKK:Hid (∀wx,Below w2.heap.size w2 wx->wx.cell? ⟨s,0,none⟩=some (.map (some M))/\(Instr.lookup 56 (.map (some M)) (.string u.mdl) true).run Tryz.prog wx= .ok (.tuple #[.agg #[.pointer c,.pointer o,.int .i64 g],.bool b]) wx):=Lib.hid fun wx hx=>⟨(HS2.out.below hx).cell,(HS2.out.below hx).2.1.run_ok u.mdl HX.out HV.out HB.out⟩
  have HDN:=Lib.hid ((HKK.out _ HD.out))
  have hda:Below w2.heap.size w2 (w2.drew.alloc (.cells #[.pointer none,.pointer none,.int .i64 0] 64)):=HD.out.alloc HD.out.size _
  have HDA:=Lib.hid (And.intro hda (HKK.out _ hda))
  have hdr:(w2.drew.alloc (.cells #[.pointer none,.pointer none,.int .i64 0] 64)).heap[w2.heap.size]?=some (.cells #[.pointer none,.pointer none,.int .i64 0] 64):=heap_alloc_new w2.drew (.cells #[.pointer none,.pointer none,.int .i64 0] 64)
  have HDR:=Lib.hid hdr
  have hdb:Below w2.heap.size w2 ((w2.drew.alloc (.cells #[.pointer none,.pointer none,.int .i64 0] 64)).setRow w2.heap.size #[.pointer c,.pointer o,.int .i64 g]):=below_setRow hda (Nat.le_refl _) _
  have HDB:=Lib.hid (And.intro (setRow_heap _ _ _ #[.pointer c,.pointer o,.int .i64 g] _ _ hdr) (And.intro hdb (HKK.out _ hdb)))
  clear hda hdr hdb
  refine wp_region_P 11 (fun w'=>w'.cell? ⟨s,0,none⟩=some (.map (some M))/\(Instr.lookup 56 (.map (some M)) (.string u.mdl) true).run Tryz.prog w'= .ok (.tuple #[.agg #[.pointer c,.pointer o,.int .i64 g],.bool b]) w') (fun _=>True) (by kernel_rfl) ⟨HDN.out,trivial⟩ (fun hHeld=>?_)
  refine wpAnyP_lateA 0 hHeld ?_
  simp only [Act.put,List.setIfInBounds_toArray,List.set_cons_zero,List.set_cons_succ,List.getElem_toArray,List.getElem_cons_zero,List.getElem_cons_succ]
  refine wpAnyP_lateA 1 hHeld ?_
  simp only [Act.put,List.setIfInBounds_toArray,List.set_cons_zero,List.set_cons_succ,List.getElem_toArray,List.getElem_cons_zero,List.getElem_cons_succ]
  refine wpAnyP_lateA 2 hHeld ?_
  simp only [Act.put,List.setIfInBounds_toArray,List.set_cons_zero,List.set_cons_succ,List.getElem_toArray,List.getElem_cons_zero,List.getElem_cons_succ]
  refine wpAnyP_lateA 3 hHeld ?_
  simp only [Act.put,List.setIfInBounds_toArray,List.set_cons_zero,List.set_cons_succ,List.getElem_toArray,List.getElem_cons_zero,List.getElem_cons_succ]
  refine wpAnyP_lateA 4 hHeld ?_
  simp only [Act.put,List.setIfInBounds_toArray,List.set_cons_zero,List.set_cons_succ,List.getElem_toArray,List.getElem_cons_zero,List.getElem_cons_succ]
  refine wpAnyP_two (i:=5) (j:=10) (by kernel_rfl) rfl rfl rfl rfl (fun KK hK=>?_) (fun KK hK=>?_)
  ·go_simp
   refine((HIM.out.below HD.out).mod).mono ?_
   rintro e w3 ⟨rfl,e3⟩
   rw [e3]
   clear e3 w3
   refine hK.out _ _ HDN.out ?_
   clear hK KK
   try simp only [Act.put,List.setIfInBounds_toArray,List.set_cons_zero,List.set_cons_succ,List.getElem_toArray,List.getElem_cons_zero,List.getElem_cons_succ]
   refine wpAnyP_lateA 6 hHeld ?_
   simp only [Act.put,List.setIfInBounds_toArray,List.set_cons_zero,List.set_cons_succ,List.getElem_toArray,List.getElem_cons_zero,List.getElem_cons_succ]
   refine wpAnyP_lateA 7 hHeld ?_
   simp only [Act.put,List.setIfInBounds_toArray,List.set_cons_zero,List.set_cons_succ,List.getElem_toArray,List.getElem_cons_zero,List.getElem_cons_succ]
   refine wpAnyP_lateA 8 hHeld ?_
   simp only [Act.put,List.setIfInBounds_toArray,List.set_cons_zero,List.set_cons_succ,List.getElem_toArray,List.getElem_cons_zero,List.getElem_cons_succ]
   refine wpAnyP_lateA 9 hHeld ?_
   simp only [Act.put,List.setIfInBounds_toArray,List.set_cons_zero,List.set_cons_succ,List.getElem_toArray,List.getElem_cons_zero,List.getElem_cons_succ]
   refine wpAnyP_oneA 10 fun KK hK=>?_
   go_simp
   refine hK.out _ _ ⟨HDA.out.2,trivial⟩ ?_
   clear hK KK
   try simp only [Act.put,List.setIfInBounds_toArray,List.set_cons_zero,List.set_cons_succ,List.getElem_toArray,List.getElem_cons_zero,List.getElem_cons_succ]
   refine wpAnyP_endA 11 fun KK hK=>?_
   rw [if_pos (by rfl)]
   refine wp_store_row 64 (.tmp 7) (.tmp 28) rfl w2.heap.size #[.pointer c,.pointer o,.int .i64 g] rfl rfl 64 #[.pointer none,.pointer none,.int .i64 0] HDR.out (by kernel_rfl) rfl (by simp [Value.oneCell']) ?_
   refine hK.out _ _ HDB.out.2.2 ?_
   clear hK KK
   try simp only [Act.put,List.setIfInBounds_toArray,List.set_cons_zero,List.set_cons_succ,List.getElem_toArray,List.getElem_cons_zero,List.getElem_cons_succ]
   refine wpAnyP_endA 12 fun KK hK=>?_
   go_simp
   refine hK.out _ _ HDB.out.2.2 ?_
   clear hK KK
   try simp only [Act.put,List.setIfInBounds_toArray,List.set_cons_zero,List.set_cons_succ,List.getElem_toArray,List.getElem_cons_zero,List.getElem_cons_succ]
   refine wpAnyP_done (by kernel_rfl) ?_ _
   go_wp2_with fail
   go_meet
   exact⟨rfl,rfl,Lib.hid HDB.out.1,Lib.hid HDB.out.2.1⟩
  ·go_simp
   refine hK.out _ _ HDA.out.2 ?_
   clear hK KK
   try simp only [Act.put,List.setIfInBounds_toArray,List.set_cons_zero,List.set_cons_succ,List.getElem_toArray,List.getElem_cons_zero,List.getElem_cons_succ]
   refine wpAnyP_oneA 5 fun KK hK=>?_
   go_simp
   refine((HIM.out.below HDA.out.1).mod).mono ?_
   rintro e w3 ⟨rfl,e3⟩
   rw [e3]
   clear e3 w3
   refine hK.out _ _ ⟨HDA.out.2,trivial⟩ ?_
   clear hK KK
   try simp only [Act.put,List.setIfInBounds_toArray,List.set_cons_zero,List.set_cons_succ,List.getElem_toArray,List.getElem_cons_zero,List.getElem_cons_succ]
   refine wpAnyP_lateA 6 ⟨HDA.out.2,trivial⟩ ?_
   simp only [Act.put,List.setIfInBounds_toArray,List.set_cons_zero,List.set_cons_succ,List.getElem_toArray,List.getElem_cons_zero,List.getElem_cons_succ]
   refine wpAnyP_lateA 7 ⟨HDA.out.2,trivial⟩ ?_
   simp only [Act.put,List.setIfInBounds_toArray,List.set_cons_zero,List.set_cons_succ,List.getElem_toArray,List.getElem_cons_zero,List.getElem_cons_succ]
   refine wpAnyP_lateA 8 ⟨HDA.out.2,trivial⟩ ?_
   simp only [Act.put,List.setIfInBounds_toArray,List.set_cons_zero,List.set_cons_succ,List.getElem_toArray,List.getElem_cons_zero,List.getElem_cons_succ]
   refine wpAnyP_lateA 9 ⟨HDA.out.2,trivial⟩ ?_
   simp only [Act.put,List.setIfInBounds_toArray,List.set_cons_zero,List.set_cons_succ,List.getElem_toArray,List.getElem_cons_zero,List.getElem_cons_succ]
   refine wpAnyP_endA 11 fun KK hK=>?_
   rw [if_pos (by rfl)]
   refine wp_store_row 64 (.tmp 7) (.tmp 28) rfl w2.heap.size #[.pointer c,.pointer o,.int .i64 g] rfl rfl 64 #[.pointer none,.pointer none,.int .i64 0] HDR.out (by kernel_rfl) rfl (by simp [Value.oneCell']) ?_
   refine hK.out _ _ HDB.out.2.2 ?_
   clear hK KK
   try simp only [Act.put,List.setIfInBounds_toArray,List.set_cons_zero,List.set_cons_succ,List.getElem_toArray,List.getElem_cons_zero,List.getElem_cons_succ]
   refine wpAnyP_endA 12 fun KK hK=>?_
   go_simp
   refine hK.out _ _ HDB.out.2.2 ?_
   clear hK KK
   try simp only [Act.put,List.setIfInBounds_toArray,List.set_cons_zero,List.set_cons_succ,List.getElem_toArray,List.getElem_cons_zero,List.getElem_cons_succ]
   refine wpAnyP_done (by kernel_rfl) ?_ _
   go_wp2_with fail
   go_meet
   exact⟨rfl,rfl,Lib.hid HDB.out.1,Lib.hid HDB.out.2.1⟩
 case rest=>
  obtain⟨rfl,rfl,HRB,HBW⟩:=hcut
  have HVS:Hid (∀n,Calls Tryz.prog 9 #[.pointer (some ⟨m,0,none⟩)] (wc.drewN n) fun e w'=>e= .returned (.int .i64 u.vsn)/\w'=wc.drewN n):=Lib.hid fun n=>(HIM.out.below (below_drewN HBW.out n)).vsn
  have r2:wc.cell? ⟨w2.heap.size,2,none⟩=some (.int .i64 g):=cell_of_row wc w2.heap.size 2 _ _ _ HRB.out
  have HWW:=Lib.hid (HB2.out.trans (HBW.out.mono HB2.out.size))
  clear HD
  go_upto_region 7 with fail
  by_cases hge:(b&&decide (u.vsn<=g))=true
  ·obtain⟨rfl,hle⟩:b=true/\decide (u.vsn<=g)=true:=by simpa using hge
   go_quiet ((go_at_call 9;exact Calls.quiet_of_same (HVS.out _)))
   go_wp2_with fail
   rw [HQ.out]
   unfold SvLoadQ
   rw [if_pos hge]
   exact⟨rfl,below_drewN HWW.out _⟩
  ·have HGE:=Lib.hid hge
   have hg2:b=false\/(b=true/\decide (u.vsn<=g)=false):=by cases b<;>simp_all
   clear hge
   go_cut [30]from 31 to 38 (fun v wx=>v= .bool false/\Hid (wx.heap[w2.heap.size]?=some (.cells #[.pointer c,.pointer o,.int .i64 g] 64 (0,0)))/\Hid (Below w2.heap.size w2 wx))
   case first=>
    rcases hg2 with rfl|⟨rfl,hle⟩
    ·go_quiet ((go_at_call 9;exact Calls.quiet_of_same (HVS.out _)))
     go_wp2_with fail
     go_meet
     exact⟨rfl,HRB,Lib.hid (below_drewN HBW.out _)⟩
    ·go_quiet ((go_at_call 9;exact Calls.quiet_of_same (HVS.out _)))
     go_wp2_with fail
     go_meet
     exact⟨rfl,HRB,Lib.hid (below_drewN HBW.out _)⟩
   case rest=>
    obtain⟨rfl,HRB5,HBW5⟩:=hcut
    clear HVS r2 HRB HBW HWW
    rename World=>w5
    have HIM5:=Lib.hid (HIM.out.below HBW5.out)
    have HS5:=Lib.hid (HS2.out.below HBW5.out)
    have HW5:=Lib.hid (HB2.out.trans (HBW5.out.mono HB2.out.size))
    have r0:w5.cell? ⟨w2.heap.size,0,none⟩=some (.pointer c):=cell_of_row w5 w2.heap.size 0 _ _ _ HRB5.out
    have r1:w5.cell? ⟨w2.heap.size,1,none⟩=some (.pointer o):=cell_of_row w5 w2.heap.size 1 _ _ _ HRB5.out
    have c0:=HS5.out.cell
    clear HRB5 HBW5 HIM HS2 HB2
    cases o with
    |some q=>
     go_wp2_with fail
     rw [HQ.out]
     unfold SvLoadQ
     rw [if_neg HGE.out,if_pos (by rfl)]
     exact⟨rfl,HW5.out⟩
    |none=>
     go_upto_region 11 with fail
     have HD5:=Lib.hid ((Below.refl w5.heap.size w5).drew)
     have HX5:=Lib.hid (And.intro HX.out HN.out)
     refine wp_region_P 13 (fun w'=>True) (fun w'=>w'=w5.drew) (by kernel_rfl) ⟨trivial,rfl⟩ (fun hHeld=>?_)
     refine wpAnyP_lateA 0 hHeld ?_
     simp only [Act.put,List.setIfInBounds_toArray,List.set_cons_zero,List.set_cons_succ,List.getElem_toArray,List.getElem_cons_zero,List.getElem_cons_succ]
     refine wpAnyP_lateA 1 hHeld ?_
     simp only [Act.put,List.setIfInBounds_toArray,List.set_cons_zero,List.set_cons_succ,List.getElem_toArray,List.getElem_cons_zero,List.getElem_cons_succ]
     refine wpAnyP_lateA 2 hHeld ?_
     simp only [Act.put,List.setIfInBounds_toArray,List.set_cons_zero,List.set_cons_succ,List.getElem_toArray,List.getElem_cons_zero,List.getElem_cons_succ]
     refine wpAnyP_earlyA [] 3 hHeld ?_
     simp only [Act.put,List.setIfInBounds_toArray,List.set_cons_zero,List.set_cons_succ,List.getElem_toArray,List.getElem_cons_zero,List.getElem_cons_succ]
     refine wpAnyP_lateA 4 hHeld ?_
     simp only [Act.put,List.setIfInBounds_toArray,List.set_cons_zero,List.set_cons_succ,List.getElem_toArray,List.getElem_cons_zero,List.getElem_cons_succ]
     refine wpAnyP_lateA 6 hHeld ?_
     simp only [Act.put,List.setIfInBounds_toArray,List.set_cons_zero,List.set_cons_succ,List.getElem_toArray,List.getElem_cons_zero,List.getElem_cons_succ]
     refine wpAnyP_lateA 7 hHeld ?_
     simp only [Act.put,List.setIfInBounds_toArray,List.set_cons_zero,List.set_cons_succ,List.getElem_toArray,List.getElem_cons_zero,List.getElem_cons_succ]
     refine wpAnyP_lateA 8 hHeld ?_
     simp only [Act.put,List.setIfInBounds_toArray,List.set_cons_zero,List.set_cons_succ,List.getElem_toArray,List.getElem_cons_zero,List.getElem_cons_succ]
     refine wpAnyP_earlyA [] 9 hHeld ?_
     simp only [Act.put,List.setIfInBounds_toArray,List.set_cons_zero,List.set_cons_succ,List.getElem_toArray,List.getElem_cons_zero,List.getElem_cons_succ]
     refine wpAnyP_lateA 10 hHeld ?_
     simp only [Act.put,List.setIfInBounds_toArray,List.set_cons_zero,List.set_cons_succ,List.getElem_toArray,List.getElem_cons_zero,List.getElem_cons_succ]
     refine wpAnyP_oneA 5 fun KK hK=>?_
     go_simp
     refine((HIM5.out.below HD5.out).mod).mono ?_
     rintro e w6 ⟨rfl,e6⟩
     rw [e6]
     clear e6 w6
     refine hK.out _ _ hHeld ?_
     clear hK KK
     try simp only [Act.put,List.setIfInBounds_toArray,List.set_cons_zero,List.set_cons_succ,List.getElem_toArray,List.getElem_cons_zero,List.getElem_cons_succ]
     refine wpAnyP_oneA 11 fun KK hK=>?_
     go_simp
     refine((HIM5.out.below HD5.out).vsn).mono ?_
     rintro e w6 ⟨rfl,e6⟩
     rw [e6]
     clear e6 w6
     refine hK.out _ _ hHeld ?_
     clear hK KK
     try simp only [Act.put,List.setIfInBounds_toArray,List.set_cons_zero,List.set_cons_succ,List.getElem_toArray,List.getElem_cons_zero,List.getElem_cons_succ]
     refine wpAnyP_oneA 12 fun KK hK=>?_
     go_simp
     refine hK.out _ _ hHeld ?_
     clear hK KK
     try simp only [Act.put,List.setIfInBounds_toArray,List.set_cons_zero,List.set_cons_succ,List.getElem_toArray,List.getElem_cons_zero,List.getElem_cons_succ]
     refine wpAnyP_endA 13 fun KK hK=>?_
     refine wp_store_O _ _ _ rfl rfl (HS5.out.below HD5.out).2.1 HX5.out.2 u.mdl _ rfl HX5.out.1 rfl ?_
     intro w7 hm7 hg7
     refine hK.out _ _ trivial ?_
     clear hK KK
     try simp only [Act.put,List.setIfInBounds_toArray,List.set_cons_zero,List.set_cons_succ,List.getElem_toArray,List.getElem_cons_zero,List.getElem_cons_succ]
     refine wpAnyP_done (by kernel_rfl) ?_ _
     go_wp2_with fail
     rw [HQ.out]
     unfold SvLoadQ
     rw [if_neg HGE.out,if_neg (by simp)]
     have hgw:w.grownBy w7 (some M):=grownBy_trans (grownBy_below HW5.out _) (grownBy_trans (grownBy_drew (grownBy_refl _ _)) hg7)
     have hlt:=HLT.out
     exact⟨rfl,m,Mi,HMI.out.1,HMI.out.2,(HIM5.out.below HD5.out).grown hg7 (fun e=>by have:=Option.some.inj e;have:=HMI.out;omega) (fun e=>by have:=Option.some.inj e;have:=HMI.out;omega),⟨(hg7.block s (by show s<w5.heap.size;exact lt_of_row HS5.out.1) (fun e=>by have:=Option.some.inj e;have:=HS5.out.2.2;omega)).trans HS5.out.1,hm7,HS5.out.2.2⟩,hgw⟩
end Go.Proofs.YtponljdhfoipjaaGreatDoor
