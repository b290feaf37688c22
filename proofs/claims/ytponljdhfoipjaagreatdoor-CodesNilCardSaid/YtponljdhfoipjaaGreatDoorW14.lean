import Derived.Test.YtponljdhfoipjaaGreatDoorW09
import Derived.Test.YtponljdhfoipjaaGreatDoorW11
import Derived.Test.YtponljdhfoipjaaGreatDoorW12
namespace Go.Proofs.YtponljdhfoipjaaGreatDoor
open Go.RowKit
set_option linter.unusedVariables false
set_option linter.unusedSimpArgs false
set_option maxRecDepth 100000
set_option maxHeartbeats 0
def opOk (op:Int):Bool:=decide (1<=op/\op<=40)
def rowAt (op:Int):Int × Int × Int:=(rowT[op.toNat]?).getD (0,0,0)
def insB (u:RUnit) (i:Nat) (x:RIns):Bool:=
 opOk x.op&&(fieldsB u.lits.length x (rowAt x.op).1.toNat (rowAt x.op).2.1.toNat (rowAt x.op).2.2.toNat&&(numberB u.funcs.length u.funs x&&(namedB x&&(listsB u.lits x&&targetsB u.code i x (rowAt x.op).1.toNat))))
def badFrom (u:RUnit):List RIns->Nat->Option Nat
 |[],_=>none
 |x::l,i=>if insB u i x=true then badFrom u l (i+1)else some i
def checkI (f:Nat) (u:RUnit):Int:=if tablesB f u=true then(match badFrom u u.code 0 with|some i=>(i:Int)|none=>0)else -1
def checkE (f:Nat) (u:RUnit):Int:=if tablesB f u=true then(match badFrom u u.code 0 with|some _=>6|none=>0)else 6
theorem bad_step (u:RUnit) {l:List RIns} {k:Nat} (h:k<l.length):badFrom u (l.drop k) k=if insB u k l[k]=true then badFrom u (l.drop (k+1)) (k+1)else some k:=by
 rw [List.drop_eq_getElem_cons h,badFrom]
theorem rowT_nat: ∀k,(h:k<41)->0<=(rowT[k]'h).1/\(rowT[k]'h).1<1000/\0<=(rowT[k]'h).2.1/\(rowT[k]'h).2.1<1000/\0<=(rowT[k]'h).2.2/\(rowT[k]'h).2.2<1000:=by decide
theorem rowOf_at {op:Int} (h:1<=op/\op<=40) (w:World) (hr:RowsAt w):
  Calls Tryz.prog 82 #[.int .i64 op] w fun e w'=>e= .returned (.tuple #[.agg #[.int .i64 ((rowAt op).1.toNat:Nat),.int .i64 ((rowAt op).2.1.toNat:Nat),.int .i64 ((rowAt op).2.2.toNat:Nat)],.bool true])/\Below w.heap.size w w':=by
 obtain⟨k,rfl⟩: ∃k:Nat,op=(k:Int):=⟨op.toNat,by omega⟩
 have hk:k<41:=by omega
 have h1:=rowOf_yes k (by omega) hk w hr
 obtain⟨a,b,c,d,e,g⟩:=rowT_nat k hk
 have hra:rowAt (k:Int)=rowT[k]'hk:=by unfold rowAt;rw [Int.toNat_natCast,List.getElem?_eq_getElem (by exact hk)];rfl
 rw [hra,Int.toNat_of_nonneg a,Int.toNat_of_nonneg c,Int.toNat_of_nonneg e]
 exact h1
theorem rowAt_lt {op:Int}:(rowAt op).1.toNat<1000/\(rowAt op).2.1.toNat<1000/\(rowAt op).2.2.toNat<1000:=by
 unfold rowAt
 by_cases h:op.toNat<41
 ·obtain⟨a,b,c,d,e,g⟩:=rowT_nat op.toNat h
  rw [List.getElem?_eq_getElem (by exact h)]
  simp only [Option.getD_some]
  omega
 ·rw [List.getElem?_eq_none (by exact Nat.le_of_not_lt h)]
  simp
theorem ret_ii {k k':IntKind} {a b c d:Int} (h:a=b) (h':c=d):Ending.returned (.tuple #[.int k a,.int k' c])= .returned (.tuple #[.int k b,.int k' d]):=by rw [h,h']
theorem lits_valid {f:Nat} {u:RUnit} (h:tablesB f u=true): ∀t∈u.lits,validF f t=true:=by
 unfold tablesB at h
 rw [Bool.and_eq_true,Bool.and_eq_true]at h
 exact List.all_eq_true.1 h.2.1
theorem check_any (f:Nat) (u:RUnit) (lo fo go co:zzA) (lc fc gc cc:Nat) (w:World) (hrows:RowsAt w) (hsp:SpaceAt w) (hp:UP w u lo fo go co) (hlits:SlAt w 9 (TmAt w (f+1)) lo u.lits) (hcap: ∀t∈u.lits,(capF (f+1) t:Int)<=1152921504606846976) (hnm: ∀x∈u.code,x.name.size<=140737488355328):
  Calls Tryz.prog 40 #[.agg #[.string u.mdl,.int .i64 u.vsn,.slice lo u.lits.length lc,.slice fo u.funcs.length fc,.slice go u.funs.length gc,.slice co u.code.length cc]] w fun e w'=>e= .returned (.tuple #[.int .i64 (checkI (f+1) u),.int .i64 (checkE (f+1) u)])/\Below w.heap.size w w':=by
 refine zzK6 hp hrows hsp hlits hcap hnm fun HP HRW HSP HLI HCAP HNM=>?_
 clear hrows hsp hp hlits hcap hnm
 have hbx:=ubox_new w u lo fo go co lc fc gc cc
 have hba:Below w.heap.size w (w.alloc (.cells #[.string u.mdl,.int .i64 u.vsn,.slice lo u.lits.length lc,.slice fo u.funcs.length fc,.slice go u.funs.length gc,.slice co u.code.length cc] 31)):=zzE _ _
 have hT:=tables_any f w.heap.size u lo fo go co lc fc gc cc _ hbx (HP.out.below hba) (HLI.out.tms hba) HCAP.out
 have HBX:=Lib.hid hbx;have HBA:=Lib.hid hba
 have EI:Hid (checkI (f+1) u=if tablesB (f+1) u=true then(match badFrom u u.code 0 with|some i=>(i:Int)|none=>0)else -1):=Lib.hid rfl
 have EE:Hid (checkE (f+1) u=if tablesB (f+1) u=true then(match badFrom u u.code 0 with|some _=>6|none=>0)else 6):=Lib.hid rfl
 clear hbx hba
 cases htb:tablesB (f+1) u with
 |false=>
  rw [htb]at hT EI EE
  rw [if_neg (by decide)]at EI EE
  clear htb
  go_enter Tryz.func40,Tryz.ntmps40
  go_wp2_with fail
  refine hT.mono ?_
  rintro e w5 ⟨rfl,hb5⟩
  go_wp2_with fail
  go_ret2
  exact⟨ret_ii EI.out.symm EE.out.symm,below_next HBA.out hb5⟩
 |true=>
  rw [htb]at hT EI EE
  rw [if_pos rfl]at EI EE
  have HLV:=Lib.hid (lits_valid htb)
  have HI:Hid (badFrom u u.code 0=badFrom u (u.code.drop 0) 0):=Lib.hid rfl
  clear htb
  have hcl:=HP.out.codeLen
  go_enter Tryz.func40,Tryz.ntmps40
  go_wp2_with fail
  refine hT.mono ?_
  rintro e w5 ⟨rfl,hb5⟩
  have HB5:=Lib.hid (below_next HBA.out hb5)
  have HU5:=Lib.hid (HBX.out.below hb5)
  have d5:=HU5.out.c5
  have hsz:w.heap.size<=w5.heap.size:=HB5.out.size
  clear hb5 hT HBX HBA
  generalize hBe:w.heap.size=B at *
  have HBE:=Lib.hid hBe
  clear hBe
  go_wp2_with fail
  go_loopw [13] (fun i wr=> ∃k:Nat,k<=u.code.length/\i= .int .i64 k/\Hid (badFrom u u.code 0=badFrom u (u.code.drop k) k)/\Below w5.heap.size w5 wr) (fun i _=>u.code.length-(intOf i).toNat)
  case atStart=>exact⟨0,Nat.zero_le _,rfl,HI,Below.refl _ _⟩
  case round=>
   obtain⟨k,hk,rfl,HK,hBw⟩:=hrel
   rename World=>wr
   by_cases hlt:k<u.code.length
   ·have HFW:Hid (Below w.heap.size w wr):=Lib.hid (by rw [HBE.out];exact HB5.out.trans (hBw.mono hsz))
    obtain⟨bc,oc,so,co',go',sc,cc',gc',hco,hxb⟩:=ibox_of (HP.out.below HFW.out).code hlt
    subst hco
    have HST:=Lib.hid (bad_step u hlt)
    have hui:=HU5.out.below hBw
    have e5:=hui.c5
    have c0:=hxb.c0
    have hbl:=hxb.lt
    have hBl:=hui.lt
    have hll:=HP.out.litsLen
    have hrl:= @rowAt_lt u.code[k].op
    have HINS:Hid (insB u k u.code[k]=(opOk u.code[k].op&&(fieldsB u.lits.length u.code[k] (rowAt u.code[k].op).1.toNat (rowAt u.code[k].op).2.1.toNat (rowAt u.code[k].op).2.2.toNat&&(numberB u.funcs.length u.funs u.code[k]&&(namedB u.code[k]&&(listsB u.lits u.code[k]&&targetsB u.code k u.code[k] (rowAt u.code[k].op).1.toNat)))))):=Lib.hid rfl
    have cf:=fun wx (hx:Below wr.heap.size wr wx)=>fields_any B u lo fo go (some ⟨bc,oc,none⟩) lc fc gc cc bc (oc+k*10) u.code[k] so co' go' sc cc' gc' (rowAt u.code[k].op).1.toNat (rowAt u.code[k].op).2.1.toNat (rowAt u.code[k].op).2.2.toNat wx (hui.below hx) hll (hxb.below hx) hrl.1 hrl.2.1 hrl.2.2
    have cn:=fun wx (hx:Below wr.heap.size wr wx)=>number_any B u lo fo go (some ⟨bc,oc,none⟩) lc fc gc cc bc (oc+k*10) u.code[k] so co' go' sc cc' gc' wx (hui.below hx) HP.out.funcsLen HP.out.funsLen ((HP.out.below HFW.out).below hx).funs (hxb.below hx)
    have cm:=fun wx (hx:Below wr.heap.size wr wx)=>named_any bc (oc+k*10) u.code[k] so co' go' sc cc' gc' wx ((HSP.out.below HFW.out).below hx) (hxb.below hx) (HNM.out _ (List.getElem_mem hlt))
    have cl:=fun wx (hx:Below wr.heap.size wr wx)=>lists_any B u lo fo go (some ⟨bc,oc,none⟩) lc fc gc cc bc (oc+k*10) u.code[k] so co' go' sc cc' gc' f wx (hui.below hx) hll ⟨(HLI.out.tms HFW.out).tms hx,fun t ht=>⟨HLV.out t ht,HCAP.out t ht⟩⟩ (hxb.below hx)
    have ct:=fun wx (hx:Below wr.heap.size wr wx)=>targets_any B u lo fo go lc fc gc cc bc oc k (rowAt u.code[k].op).1.toNat (rowAt u.code[k].op).2.1.toNat (rowAt u.code[k].op).2.2.toNat so co' go' sc cc' gc' wx (hui.below hx) ((HP.out.below HFW.out).below hx).code hcl hlt u.code[k] (hxb.below hx) hrl.1
    refine zzK5 cf cn cm cl ct fun CF CN CM CL CT=>?_
    clear cf cn cm cl ct hrl hxb hui
    by_cases hop:1<=u.code[k].op/\u.code[k].op<=40
    ·have hro:=rowOf_at hop wr (HRW.out.below HFW.out)
     have hok1:opOk u.code[k].op=true:=by unfold opOk;exact decide_eq_true hop
     rw [hok1]at HINS
     clear hop hok1
     generalize fieldsB u.lits.length u.code[k] (rowAt u.code[k].op).1.toNat (rowAt u.code[k].op).2.1.toNat (rowAt u.code[k].op).2.2.toNat=b1 at *
     generalize targetsB u.code k u.code[k] (rowAt u.code[k].op).1.toNat=b5 at *
     generalize numberB u.funcs.length u.funs u.code[k]=b2 at *
     generalize namedB u.code[k]=b3 at *
     generalize listsB u.lits u.code[k]=b4 at *
     generalize insB u k u.code[k]=ib at *
     generalize(rowAt u.code[k].op).1.toNat=h at *
     generalize(rowAt u.code[k].op).2.1.toNat=l1 at *
     generalize(rowAt u.code[k].op).2.2.toNat=l2 at *
     generalize u.code[k].op=op at *
     have hbad:ib=false->badFrom u u.code 0=some k:=fun e=>by rw [HK.out,HST.out,e];rfl
     have hgood:ib=true->badFrom u u.code 0=badFrom u (u.code.drop (k+1)) (k+1):=fun e=>by rw [HK.out,HST.out,e];rfl
     have HBAD:=Lib.hid hbad;have HGOOD:=Lib.hid hgood
     clear hbad hgood
     cases b1 with
     |false=>
      have hb:=HBAD.out (by rw [HINS.out];rfl)
      have E1:Hid (checkI (f+1) u=k):=Lib.hid (by rw [EI.out,hb])
      have E2:Hid (checkE (f+1) u=6):=Lib.hid (by rw [EE.out,hb])
      clear hb
      go_wp2_with fail
      refine hro.mono ?_
      rintro e w6 ⟨rfl,hb6⟩
      have HW:=Lib.hid (hb6.alloc hb6.size (.cells #[.int .i64 (h:Nat),.int .i64 (l1:Nat),.int .i64 (l2:Nat)] 170))
      have hR:=heap_alloc_new w6 (.cells #[.int .i64 (h:Nat),.int .i64 (l1:Nat),.int .i64 (l2:Nat)] 170)
      have HR:=Lib.hid hR
      have HWW:=Lib.hid (Below.refl (w6.alloc (.cells #[.int .i64 (h:Nat),.int .i64 (l1:Nat),.int .i64 (l2:Nat)] 170)).heap.size (w6.alloc (.cells #[.int .i64 (h:Nat),.int .i64 (l1:Nat),.int .i64 (l2:Nat)] 170)))
      clear hb6 hR
      go_wp2_with fail
      generalize w6.alloc (.cells #[.int .i64 (h:Nat),.int .i64 (l1:Nat),.int .i64 (l2:Nat)] 170)=W6 at *
      generalize w6.heap.size=R at *
      refine(CF.out _ HW.out).mono ?_
      rintro e v0 ⟨rfl,hc0⟩
      have HV0:=Lib.hid (below_next HW.out hc0)
      have HZ0:=Lib.hid (below_next HWW.out hc0)
      clear hc0
      go_wp2_with fail
      go_ret2
      exact⟨ret_ii E1.out.symm E2.out.symm,HFW.out.trans (HV0.out.mono HFW.out.size)⟩
     |true=>
      cases b2 with
      |false=>
       have hb:=HBAD.out (by rw [HINS.out];rfl)
       have E1:Hid (checkI (f+1) u=k):=Lib.hid (by rw [EI.out,hb])
       have E2:Hid (checkE (f+1) u=6):=Lib.hid (by rw [EE.out,hb])
       clear hb
       go_wp2_with fail
       refine hro.mono ?_
       rintro e w6 ⟨rfl,hb6⟩
       have HW:=Lib.hid (hb6.alloc hb6.size (.cells #[.int .i64 (h:Nat),.int .i64 (l1:Nat),.int .i64 (l2:Nat)] 170))
       have hR:=heap_alloc_new w6 (.cells #[.int .i64 (h:Nat),.int .i64 (l1:Nat),.int .i64 (l2:Nat)] 170)
       have HR:=Lib.hid hR
       have HWW:=Lib.hid (Below.refl (w6.alloc (.cells #[.int .i64 (h:Nat),.int .i64 (l1:Nat),.int .i64 (l2:Nat)] 170)).heap.size (w6.alloc (.cells #[.int .i64 (h:Nat),.int .i64 (l1:Nat),.int .i64 (l2:Nat)] 170)))
       clear hb6 hR
       go_wp2_with fail
       generalize w6.alloc (.cells #[.int .i64 (h:Nat),.int .i64 (l1:Nat),.int .i64 (l2:Nat)] 170)=W6 at *
       generalize w6.heap.size=R at *
       refine(CF.out _ HW.out).mono ?_
       rintro e v0 ⟨rfl,hc0⟩
       have HV0:=Lib.hid (below_next HW.out hc0)
       have HZ0:=Lib.hid (below_next HWW.out hc0)
       clear hc0
       go_wp2_with fail
       refine(CN.out _ HV0.out).mono ?_
       rintro e v1 ⟨rfl,hc1⟩
       have HV1:=Lib.hid (below_next HV0.out hc1)
       have HZ1:=Lib.hid (below_next HZ0.out hc1)
       clear hc1
       go_wp2_with fail
       go_ret2
       exact⟨ret_ii E1.out.symm E2.out.symm,HFW.out.trans (HV1.out.mono HFW.out.size)⟩
      |true=>
       cases b3 with
       |false=>
        have hb:=HBAD.out (by rw [HINS.out];rfl)
        have E1:Hid (checkI (f+1) u=k):=Lib.hid (by rw [EI.out,hb])
        have E2:Hid (checkE (f+1) u=6):=Lib.hid (by rw [EE.out,hb])
        clear hb
        go_wp2_with fail
        refine hro.mono ?_
        rintro e w6 ⟨rfl,hb6⟩
        have HW:=Lib.hid (hb6.alloc hb6.size (.cells #[.int .i64 (h:Nat),.int .i64 (l1:Nat),.int .i64 (l2:Nat)] 170))
        have hR:=heap_alloc_new w6 (.cells #[.int .i64 (h:Nat),.int .i64 (l1:Nat),.int .i64 (l2:Nat)] 170)
        have HR:=Lib.hid hR
        have HWW:=Lib.hid (Below.refl (w6.alloc (.cells #[.int .i64 (h:Nat),.int .i64 (l1:Nat),.int .i64 (l2:Nat)] 170)).heap.size (w6.alloc (.cells #[.int .i64 (h:Nat),.int .i64 (l1:Nat),.int .i64 (l2:Nat)] 170)))
        clear hb6 hR
        go_wp2_with fail
        generalize w6.alloc (.cells #[.int .i64 (h:Nat),.int .i64 (l1:Nat),.int .i64 (l2:Nat)] 170)=W6 at *
        generalize w6.heap.size=R at *
        refine(CF.out _ HW.out).mono ?_
        rintro e v0 ⟨rfl,hc0⟩
        have HV0:=Lib.hid (below_next HW.out hc0)
        have HZ0:=Lib.hid (below_next HWW.out hc0)
        clear hc0
        go_wp2_with fail
        refine(CN.out _ HV0.out).mono ?_
        rintro e v1 ⟨rfl,hc1⟩
        have HV1:=Lib.hid (below_next HV0.out hc1)
        have HZ1:=Lib.hid (below_next HZ0.out hc1)
        clear hc1
        go_wp2_with fail
        refine(CM.out _ HV1.out).mono ?_
        rintro e v2 ⟨rfl,hc2⟩
        have HV2:=Lib.hid (below_next HV1.out hc2)
        have HZ2:=Lib.hid (below_next HZ1.out hc2)
        clear hc2
        go_wp2_with fail
        go_ret2
        exact⟨ret_ii E1.out.symm E2.out.symm,HFW.out.trans (HV2.out.mono HFW.out.size)⟩
       |true=>
        cases b4 with
        |false=>
         have hb:=HBAD.out (by rw [HINS.out];rfl)
         have E1:Hid (checkI (f+1) u=k):=Lib.hid (by rw [EI.out,hb])
         have E2:Hid (checkE (f+1) u=6):=Lib.hid (by rw [EE.out,hb])
         clear hb
         go_wp2_with fail
         refine hro.mono ?_
         rintro e w6 ⟨rfl,hb6⟩
         have HW:=Lib.hid (hb6.alloc hb6.size (.cells #[.int .i64 (h:Nat),.int .i64 (l1:Nat),.int .i64 (l2:Nat)] 170))
         have hR:=heap_alloc_new w6 (.cells #[.int .i64 (h:Nat),.int .i64 (l1:Nat),.int .i64 (l2:Nat)] 170)
         have HR:=Lib.hid hR
         have HWW:=Lib.hid (Below.refl (w6.alloc (.cells #[.int .i64 (h:Nat),.int .i64 (l1:Nat),.int .i64 (l2:Nat)] 170)).heap.size (w6.alloc (.cells #[.int .i64 (h:Nat),.int .i64 (l1:Nat),.int .i64 (l2:Nat)] 170)))
         clear hb6 hR
         go_wp2_with fail
         generalize w6.alloc (.cells #[.int .i64 (h:Nat),.int .i64 (l1:Nat),.int .i64 (l2:Nat)] 170)=W6 at *
         generalize w6.heap.size=R at *
         refine(CF.out _ HW.out).mono ?_
         rintro e v0 ⟨rfl,hc0⟩
         have HV0:=Lib.hid (below_next HW.out hc0)
         have HZ0:=Lib.hid (below_next HWW.out hc0)
         clear hc0
         go_wp2_with fail
         refine(CN.out _ HV0.out).mono ?_
         rintro e v1 ⟨rfl,hc1⟩
         have HV1:=Lib.hid (below_next HV0.out hc1)
         have HZ1:=Lib.hid (below_next HZ0.out hc1)
         clear hc1
         go_wp2_with fail
         refine(CM.out _ HV1.out).mono ?_
         rintro e v2 ⟨rfl,hc2⟩
         have HV2:=Lib.hid (below_next HV1.out hc2)
         have HZ2:=Lib.hid (below_next HZ1.out hc2)
         clear hc2
         go_wp2_with fail
         refine(CL.out _ HV2.out).mono ?_
         rintro e v3 ⟨rfl,hc3⟩
         have HV3:=Lib.hid (below_next HV2.out hc3)
         have HZ3:=Lib.hid (below_next HZ2.out hc3)
         clear hc3
         go_wp2_with fail
         go_ret2
         exact⟨ret_ii E1.out.symm E2.out.symm,HFW.out.trans (HV3.out.mono HFW.out.size)⟩
        |true=>
         cases b5 with
         |false=>
          have hb:=HBAD.out (by rw [HINS.out];rfl)
          have E1:Hid (checkI (f+1) u=k):=Lib.hid (by rw [EI.out,hb])
          have E2:Hid (checkE (f+1) u=6):=Lib.hid (by rw [EE.out,hb])
          clear hb
          go_wp2_with fail
          refine hro.mono ?_
          rintro e w6 ⟨rfl,hb6⟩
          have HW:=Lib.hid (hb6.alloc hb6.size (.cells #[.int .i64 (h:Nat),.int .i64 (l1:Nat),.int .i64 (l2:Nat)] 170))
          have hR:=heap_alloc_new w6 (.cells #[.int .i64 (h:Nat),.int .i64 (l1:Nat),.int .i64 (l2:Nat)] 170)
          have HR:=Lib.hid hR
          have HWW:=Lib.hid (Below.refl (w6.alloc (.cells #[.int .i64 (h:Nat),.int .i64 (l1:Nat),.int .i64 (l2:Nat)] 170)).heap.size (w6.alloc (.cells #[.int .i64 (h:Nat),.int .i64 (l1:Nat),.int .i64 (l2:Nat)] 170)))
          clear hb6 hR
          go_wp2_with fail
          generalize w6.alloc (.cells #[.int .i64 (h:Nat),.int .i64 (l1:Nat),.int .i64 (l2:Nat)] 170)=W6 at *
          generalize w6.heap.size=R at *
          refine(CF.out _ HW.out).mono ?_
          rintro e v0 ⟨rfl,hc0⟩
          have HV0:=Lib.hid (below_next HW.out hc0)
          have HZ0:=Lib.hid (below_next HWW.out hc0)
          clear hc0
          go_wp2_with fail
          refine(CN.out _ HV0.out).mono ?_
          rintro e v1 ⟨rfl,hc1⟩
          have HV1:=Lib.hid (below_next HV0.out hc1)
          have HZ1:=Lib.hid (below_next HZ0.out hc1)
          clear hc1
          go_wp2_with fail
          refine(CM.out _ HV1.out).mono ?_
          rintro e v2 ⟨rfl,hc2⟩
          have HV2:=Lib.hid (below_next HV1.out hc2)
          have HZ2:=Lib.hid (below_next HZ1.out hc2)
          clear hc2
          go_wp2_with fail
          refine(CL.out _ HV2.out).mono ?_
          rintro e v3 ⟨rfl,hc3⟩
          have HV3:=Lib.hid (below_next HV2.out hc3)
          have HZ3:=Lib.hid (below_next HZ2.out hc3)
          clear hc3
          have hrr:=(HZ3.out.block R (lt_of_row HR.out)).trans HR.out
          have g0:v3.cell? ⟨R,0,none⟩=some (.int .i64 (h:Nat)):=by rw [cell_of_row _ _ _ _ _ _ hrr];rfl
          have g1:v3.cell? ⟨R,1,none⟩=some (.int .i64 (l1:Nat)):=by rw [cell_of_row _ _ _ _ _ _ hrr];rfl
          have g2:v3.cell? ⟨R,2,none⟩=some (.int .i64 (l2:Nat)):=by rw [cell_of_row _ _ _ _ _ _ hrr];rfl
          clear hrr
          go_wp2_with fail
          refine(CT.out _ HV3.out).mono ?_
          rintro e v4 ⟨rfl,hc4⟩
          have HV4:=Lib.hid (below_next HV3.out hc4)
          have HZ4:=Lib.hid (below_next HZ3.out hc4)
          clear hc4
          go_wp2_with fail
          go_ret2
          exact⟨ret_ii E1.out.symm E2.out.symm,HFW.out.trans (HV4.out.mono HFW.out.size)⟩
         |true=>
          have HNX:=Lib.hid (HGOOD.out (by rw [HINS.out];rfl))
          go_wp2_with fail
          refine hro.mono ?_
          rintro e w6 ⟨rfl,hb6⟩
          have HW:=Lib.hid (hb6.alloc hb6.size (.cells #[.int .i64 (h:Nat),.int .i64 (l1:Nat),.int .i64 (l2:Nat)] 170))
          have hR:=heap_alloc_new w6 (.cells #[.int .i64 (h:Nat),.int .i64 (l1:Nat),.int .i64 (l2:Nat)] 170)
          have HR:=Lib.hid hR
          have HWW:=Lib.hid (Below.refl (w6.alloc (.cells #[.int .i64 (h:Nat),.int .i64 (l1:Nat),.int .i64 (l2:Nat)] 170)).heap.size (w6.alloc (.cells #[.int .i64 (h:Nat),.int .i64 (l1:Nat),.int .i64 (l2:Nat)] 170)))
          clear hb6 hR
          go_wp2_with fail
          generalize w6.alloc (.cells #[.int .i64 (h:Nat),.int .i64 (l1:Nat),.int .i64 (l2:Nat)] 170)=W6 at *
          generalize w6.heap.size=R at *
          refine(CF.out _ HW.out).mono ?_
          rintro e v0 ⟨rfl,hc0⟩
          have HV0:=Lib.hid (below_next HW.out hc0)
          have HZ0:=Lib.hid (below_next HWW.out hc0)
          clear hc0
          go_wp2_with fail
          refine(CN.out _ HV0.out).mono ?_
          rintro e v1 ⟨rfl,hc1⟩
          have HV1:=Lib.hid (below_next HV0.out hc1)
          have HZ1:=Lib.hid (below_next HZ0.out hc1)
          clear hc1
          go_wp2_with fail
          refine(CM.out _ HV1.out).mono ?_
          rintro e v2 ⟨rfl,hc2⟩
          have HV2:=Lib.hid (below_next HV1.out hc2)
          have HZ2:=Lib.hid (below_next HZ1.out hc2)
          clear hc2
          go_wp2_with fail
          refine(CL.out _ HV2.out).mono ?_
          rintro e v3 ⟨rfl,hc3⟩
          have HV3:=Lib.hid (below_next HV2.out hc3)
          have HZ3:=Lib.hid (below_next HZ2.out hc3)
          clear hc3
          have hrr:=(HZ3.out.block R (lt_of_row HR.out)).trans HR.out
          have g0:v3.cell? ⟨R,0,none⟩=some (.int .i64 (h:Nat)):=by rw [cell_of_row _ _ _ _ _ _ hrr];rfl
          have g1:v3.cell? ⟨R,1,none⟩=some (.int .i64 (l1:Nat)):=by rw [cell_of_row _ _ _ _ _ _ hrr];rfl
          have g2:v3.cell? ⟨R,2,none⟩=some (.int .i64 (l2:Nat)):=by rw [cell_of_row _ _ _ _ _ _ hrr];rfl
          clear hrr
          go_wp2_with fail
          refine(CT.out _ HV3.out).mono ?_
          rintro e v4 ⟨rfl,hc4⟩
          have HV4:=Lib.hid (below_next HV3.out hc4)
          have HZ4:=Lib.hid (below_next HZ3.out hc4)
          clear hc4
          go_wp2_with fail
          go_roundw
          case rel=>exact⟨k+1,by omega,by go_num,HNX,hBw.trans (HV4.out.mono hBw.size)⟩
          case measure=>simp [intOf];omega
    ·have hb:badFrom u u.code 0=some k:=by rw [HK.out,HST.out,HINS.out];unfold opOk;rw [decide_eq_false hop];simp
     have E1:Hid (checkI (f+1) u=k):=Lib.hid (by rw [EI.out,hb])
     have E2:Hid (checkE (f+1) u=6):=Lib.hid (by rw [EE.out,hb])
     have hro:=rowOf_no u.code[k].op hop wr
     clear hb hop
     generalize u.code[k].op=op at *
     go_wp2_with fail
     refine hro.mono ?_
     rintro e w6 ⟨rfl,hb6⟩
     have HF:=Lib.hid (HFW.out.trans (hb6.mono HFW.out.size))
     go_wp2_with fail
     go_ret2
     exact⟨ret_ii E1.out.symm E2.out.symm,HF.out.alloc HF.out.size _⟩
   ·have E:Hid (badFrom u u.code 0=none):=Lib.hid (by rw [HK.out,List.drop_eq_nil_of_le (by omega)];rfl)
    have E1:Hid (checkI (f+1) u=0):=Lib.hid (by rw [EI.out,E.out])
    have E2:Hid (checkE (f+1) u=0):=Lib.hid (by rw [EE.out,E.out])
    have HF:Hid (Below w.heap.size w wr):=Lib.hid (by rw [HBE.out];exact HB5.out.trans (hBw.mono hsz))
    go_wp2_with fail
    go_ret2
    exact⟨ret_ii E1.out.symm E2.out.symm,HF.out⟩
theorem wi_iff {n a b:Int} (h:wi n a b=true):a<=n/\n<=b:=by
 unfold wi at h;rw [Bool.and_eq_true,decide_eq_true_eq,decide_eq_true_eq]at h;exact h
theorem rowT_facts: ∀k,(h:k<41)->(hasB (rowT[k]'h).1.toNat 16=true->k=12)/\(hasB (rowT[k]'h).1.toNat 8=true->k=13\/k=14\/k=15) /\
  (hasB (rowT[k]'h).1.toNat 4=true->k=4\/k=5\/k=9\/k=15\/k=16\/k=17\/k=18\/k=19\/k=20\/k=21\/k=24\/k=31\/k=32\/k=33)/\(rowT[k]'h).2.2<=255:=by decide
theorem rowAt_facts {op:Int} (h:1<=op/\op<=40):(hasB (rowAt op).1.toNat 16=true->op=12)/\(hasB (rowAt op).1.toNat 8=true->op=13\/op=14\/op=15) /\
  (hasB (rowAt op).1.toNat 4=true->op=4\/op=5\/op=9\/op=15\/op=16\/op=17\/op=18\/op=19\/op=20\/op=21\/op=24\/op=31\/op=32\/op=33)/\(rowAt op).2.2<=255:=by
 obtain⟨k,rfl⟩: ∃k:Nat,op=(k:Int):=⟨op.toNat,by omega⟩
 have hk:k<41:=by omega
 have hra:rowAt (k:Int)=rowT[k]'hk:=by unfold rowAt;rw [Int.toNat_natCast,List.getElem?_eq_getElem (by exact hk)];rfl
 rw [hra]
 obtain⟨a,b,c,d⟩:=rowT_facts k hk
 exact⟨fun h=>by have:=a h;omega,fun h=>by have:=b h;omega,fun h=>by have:=c h;omega,d⟩
structure TabOk (u:RUnit):Prop where
 mdl:u.mdl.size<=32
 vsn0:1<=u.vsn
 vsn1:u.vsn<=2147483647
 code0:1<=u.code.length
 code1:u.code.length<=524288
 lits:u.lits.length<=65535
 funcs:u.funcs.length<=200
 funs:u.funs.length<=1000
 func: ∀g∈u.funcs,g.name.size<=32/\0<=g.arity/\g.arity<=16/\0<=g.entry/\g.entry<=524288
 fn: ∀g∈u.funs,0<=g.arity/\g.arity<=16/\0<=g.free/\g.free<=200/\0<=g.entry/\g.entry<=524288
theorem nameB_size {s:ByteArray} (h:nameB s=true):s.size<=32:=by
 unfold nameB at h
 rw [Bool.and_eq_true,Bool.and_eq_true,decide_eq_true_eq,decide_eq_true_eq]at h
 exact h.1.2
theorem tab_ok {f:Nat} {u:RUnit} (h:tablesB f u=true):TabOk u:=by
 unfold tablesB tabA at h
 simp only [Bool.and_eq_true,decide_eq_true_eq]at h
 obtain⟨⟨h1,h2,h3,h4,h5,h6,h7,h8⟩,_,hf,hg⟩:=h
 refine⟨nameB_size h1,h2,h3,by omega,by omega,h6,h7,h8,fun g hm=>?_,fun g hm=>?_⟩
 ·obtain⟨k,hk,rfl⟩:=List.getElem_of_mem hm
  have:=(of_decide_eq_true hf k hk).1
  unfold fnOk at this
  rw [Bool.and_eq_true,Bool.and_eq_true]at this
  have a:=wi_iff this.2.1;have b:=wi_iff this.2.2
  exact⟨nameB_size this.1,by omega,by omega,by omega,by omega⟩
 ·have:=List.all_eq_true.1 hg g hm
  unfold funB at this
  rw [Bool.and_eq_true,Bool.and_eq_true]at this
  have a:=wi_iff this.1;have b:=wi_iff this.2.1;have c:=wi_iff this.2.2
  omega
theorem bad_none {u:RUnit}: ∀(l:List RIns) (i:Nat),badFrom u l i=none-> ∀k (h:k<l.length),insB u (i+k) l[k]=true
 |[],_,_,k,h=>absurd h (Nat.not_lt_zero _)
 |x::l,i,hb,k,h=>by
  unfold badFrom at hb
  split at hb
  ·rename_i e
   cases k with
   |zero=>exact e
   |succ k=>
    have:=bad_none l (i+1) hb k (by simpa using h)
    rw [show i+(k+1)=i+1+k by omega]
    exact this
  ·cases hb
theorem check_ok {f:Nat} {u:RUnit} (h:checkE f u=0):TabOk u/\tablesB f u=true/\ ∀k (hk:k<u.code.length),insB u k u.code[k]=true:=by
 unfold checkE at h
 split at h
 ·rename_i ht
  cases hb:badFrom u u.code 0 with
  |some i=>rw [hb]at h;exact absurd (show(6:Int)=0 from h) (by decide)
  |none=>
   refine⟨tab_ok ht,ht,fun k hk=>?_⟩
   have:=bad_none u.code 0 hb k hk
   rwa [Nat.zero_add]at this
 ·exact absurd h (by decide)
structure VIns (u:RUnit) (i:Nat) (x:RIns):Prop where
 op:1<=x.op/\x.op<=40
 jump:JumpOk u.code.length i x
 opd: ∀s,OpdOk u s x
 srcs: ∀s,x.op=1\/x.op=5\/x.op=6\/x.op=7\/x.op=9\/x.op=10->0<x.src.length/\ArgOk u s (src0 x)
 n5:x.op=5->0<=x.n/\x.n<=254
 n9:x.op=9->0<=x.n/\x.n<=255
 n24:x.op=24->1<=x.n/\x.n<=8192
 t28:x.op=28->0<=x.to/\x.to<u.code.length
 dstx:x.dst.kind=1->0<=x.dst.n/\x.dst.n<=255
 dsty:x.dst.kind=2->0<=x.dst.n/\x.dst.n<=8191
 dst:x.dst.kind=0\/x.dst.kind=1\/x.dst.kind=2
 dst0:x.dst.kind=0↔hasB (rowAt x.op).1.toNat 1=false
 live:0<=x.live/\x.live<=256
 srcLen:x.src.length<=255
 casesLen:x.cases.length<=1000
 segsLen:x.segs.length<=60
theorem opdB_ok {u:RUnit} {a:RArg} (hl:u.lits.length<=65535) (h:opdB u.lits.length a=true) (s:VSt):ArgOk u s a:=by
 unfold opdB at h
 split at h
 ·have:=wi_iff h;exact⟨fun _=>this,fun e=>by omega,fun e=>by omega,by unfold I64;omega⟩
 ·split at h
  ·have:=wi_iff h;exact⟨fun e=>by omega,fun _=>this,fun _ e=>by omega,by unfold I64;omega⟩
  ·split at h
   ·have:=wi_iff h;exact⟨fun e=>by omega,fun e=>by omega,fun _ _=>by omega,by unfold I64;omega⟩
   ·cases h
theorem rowT_v: ∀k:Nat,(h:k<41)->0<k->(hasB (rowT[k]'h).1.toNat 64=true↔toB (k:Int)=true\/k=28)/\(hasB (rowT[k]'h).1.toNat 128=true↔limitedV (k:Int)=true) /\
  (k=1\/k=5\/k=6\/k=7\/k=9\/k=10->0<(rowT[k]'h).2.1):=by decide
theorem rowAt_v {op:Int} (h:1<=op/\op<=40):(hasB (rowAt op).1.toNat 64=true↔toB op=true\/op=28)/\(hasB (rowAt op).1.toNat 128=true↔limitedV op=true)/\(op=1\/op=5\/op=6\/op=7\/op=9\/op=10->0<(rowAt op).2.1):=by
 obtain⟨k,rfl⟩: ∃k:Nat,op=(k:Int):=⟨op.toNat,by omega⟩
 have hk:k<41:=by omega
 have hra:rowAt (k:Int)=rowT[k]'hk:=by unfold rowAt;rw [Int.toNat_natCast,List.getElem?_eq_getElem (by exact hk)];rfl
 rw [hra]
 obtain⟨a,b,c⟩:=rowT_v k hk (by omega)
 exact⟨a.trans ⟨fun h=>h.imp id fun h=>by omega,fun h=>h.imp id fun h=>by omega⟩,b,fun h=>c (by omega)⟩
theorem numberB_v {nf:Nat} {funs:List RFun} {x:RIns} (h:numberB nf funs x=true):(x.op=5->0<=x.n/\x.n<=254)/\(x.op=9->0<=x.n/\x.n<=255)/\(x.op=16\/x.op=17->0<=x.n/\x.n<nf) /\
  (x.op=15\/x.op=18\/x.op=19\/x.op=20\/x.op=21->0<=x.n/\x.n<=16)/\(x.op=24->1<=x.n/\x.n<=8192):=by
 unfold numberB at h
 split at h
 ·omega
 ·split at h
  ·have:=wi_iff h;omega
  ·split at h
   ·have:=wi_iff h;omega
   ·split at h
    ·have:=wi_iff h;omega
    ·split at h
     ·have:=wi_iff h;omega
     ·split at h
      ·have:=wi_iff h;omega
      ·omega
theorem vins_ok {u:RUnit} {i:Nat} {x:RIns} (ht:TabOk u) (h:insB u i x=true):VIns u i x:=by
 unfold insB at h
 simp only [Bool.and_eq_true]at h
 obtain⟨h0,h1,h2,h3,h4,h5⟩:=h
 have hop:1<=x.op/\x.op<=40:=by unfold opOk at h0;exact of_decide_eq_true h0
 obtain⟨r16,r8,r4,rhi⟩:=rowAt_facts hop
 obtain⟨v64,v128,vlo⟩:=rowAt_v hop
 have hlo:((rowAt x.op).2.1.toNat:Int)<=x.src.length->x.op=1\/x.op=5\/x.op=6\/x.op=7\/x.op=9\/x.op=10->0<x.src.length:=fun a b=>by have:=vlo b;omega
 generalize hh:(rowAt x.op).1.toNat=hb at *
 unfold fieldsB at h1
 simp only [Bool.and_eq_true]at h1
 obtain⟨f1,f2,f3,f4,f5,f6,f7,f8,f9,f10⟩:=h1
 have w3:=wi_iff f3;have w4:=wi_iff f4
 have hlit:=ht.lits;have hcode:=ht.code1
 unfold listsB at h4
 simp only [Bool.and_eq_true,decide_eq_true_eq]at h4
 obtain⟨⟨g1,g2⟩,g3,g4⟩:=h4
 obtain⟨n5,n9,n16,n15,n24⟩:=numberB_v h2
 have hargs:0<=argsV u x/\argsV u x<=1000:=by
  unfold argsV
  split
  ·rename_i e;have:=n15 e;omega
  ·split
   ·rename_i e
    have:=n16 e
    have hlt:x.n.toNat<u.funcs.length:=by omega
    rw [List.getElem?_eq_getElem hlt]
    have:=ht.func _ (List.getElem_mem hlt)
    show 0<=(u.funcs[x.n.toNat]).arity/\(u.funcs[x.n.toNat]).arity<=1000
    omega
   ·split<;>omega
 have hsrc: ∀s,∀a∈x.src,ArgOk u s a:=fun s a ha=>opdB_ok hlit (List.all_eq_true.1 f2 a ha) s
 have hdst:(x.dst.kind=1->0<=x.dst.n/\x.dst.n<=255)/\(x.dst.kind=2->0<=x.dst.n/\x.dst.n<=8191)/\(x.dst.kind=0\/x.dst.kind=1\/x.dst.kind=2)/\(x.dst.kind=0↔hasB hb 1=false):=by
  unfold dstB at f1
  split at f1
  ·rename_i e
   rw [Bool.and_eq_true]at f1
   obtain⟨f1,f1'⟩:=f1
   have h3:x.dst.kind≠3:=by simpa using f1
   unfold opdB at f1'
   split at f1'
   ·have:=wi_iff f1';exact⟨fun _=>this,fun _=>by omega,by omega,⟨fun _=>by omega,fun h=>by rw [e]at h;cases h⟩⟩
   ·split at f1'
    ·have:=wi_iff f1';exact⟨fun _=>by omega,fun _=>this,by omega,⟨fun _=>by omega,fun h=>by rw [e]at h;cases h⟩⟩
    ·simp [h3]at f1'
  ·rename_i e
   rw [Bool.and_eq_true]at f1
   have:=of_decide_eq_true f1.1
   exact⟨by omega,by omega,by omega,⟨fun _=>by simpa using e,fun _=>this⟩⟩
 have hsel:x.cases≠ []->x.op=12:=fun hne=>r16 (by
  cases e:hasB hb 16 with
  |true=>rfl
  |false=>
   rw [e,Bool.false_or]at f9
   exact absurd (List.length_eq_zero_iff.1 (eq_of_beq f9)) hne)
 have hjump:JumpOk u.code.length i x/\(x.op=28->0<=x.to/\x.to<u.code.length):=by
  unfold targetsB at h5
  by_cases ho:x.op=39\/x.op=40
  ·rw [if_pos ho,Bool.and_eq_true]at h5
   have hw:=wi_iff h5.1
   refine⟨⟨fun c hc=>?_,hsel,fun _=>by omega,fun _=>by omega,fun h=>?_⟩,fun _=>by omega⟩
   ·have:=hsel (fun e=>by rw [e]at hc;cases hc);omega
   ·rcases ho with e|e<;>rw [e]at h<;>exact absurd h (by decide)
  ·rw [if_neg ho,Bool.and_eq_true]at h5
   have hto:hasB hb 64=true->(i:Int)<x.to/\x.to<u.code.length:=fun e=>by
    have:=h5.2
    rw [e]at this
    have:=wi_iff (show wi x.to ((i:Int)+1) ((u.code.length:Int)-1)=true from this)
    omega
   refine⟨⟨fun c hc=>?_,hsel,fun h=>?_,fun h _ _=>(hto (v64.2 (.inl h))).1,fun h h28=>?_⟩,fun e=>?_⟩
   ·have:=wi_iff (List.all_eq_true.1 h5.1 c hc);omega
   ·have:=hto (v64.2 (.inl h));omega
   ·cases e:hasB hb 64 with
    |false=>rw [e,Bool.false_or]at f7;exact eq_of_beq f7
    |true=>
     rcases v64.1 e with e'|e'
     ·rw [h]at e';cases e'
     ·exact absurd e' h28
   ·have:=hto (v64.2 (.inr e));omega
 refine⟨hop,hjump.1,fun s=>⟨hsrc s,fun g hg=>?_,fun g hg hz=>?_,n16,hargs,by omega,by omega⟩,fun s e=>?_,n5,n9,n24,hjump.2,hdst.1,hdst.2.1,hdst.2.2.1,by rw [hh];exact hdst.2.2.2,by omega,by omega,?_,by omega⟩
 ·have:=List.all_eq_true.1 g4 g hg
  unfold segB at this
  simp only [Bool.and_eq_true]at this
  exact opdB_ok hlit this.2.1 s
 ·have:=List.all_eq_true.1 g4 g hg
  unfold segB at this
  simp only [Bool.and_eq_true,Bool.or_eq_true,decide_eq_true_eq]at this
  rcases this.2.2.1 with h|h
  ·exact absurd h hz
  ·exact opdB_ok hlit h s
 ·have hl:=hlo w3.1 e
  refine⟨hl,?_⟩
  have:src0 x=x.src[0]:=by
   unfold src0
   rw [List.headD_eq_head?_getD,List.head?_eq_getElem?,List.getElem?_eq_getElem hl];rfl
  rw [this]
  exact hsrc s _ (List.getElem_mem hl)
 ·by_cases e:x.op=12
  ·rw [e]at g1
   have:=wi_iff (show wi x.cases.length 1 1000=true from by simpa using g1)
   omega
  ·have:x.cases= []:=Classical.byContradiction fun hne=>e (hsel hne)
   rw [this];exact Nat.zero_le _
structure SInv (n i:Nat) (s:VSt):Prop where
 fr: -1<=s.frame/\s.frame<=8192
 y:s.y.length=s.frame.toNat
 x:s.x.length<=256
 tx:trimT s.x=s.x
 t:s.tries.length<=i
 tr: ∀a∈s.tries,0<=a/\a<n
theorem SInv.mono {n i j:Nat} {s:VSt} (h:SInv n i s) (hij:i<=j):SInv n j s:=⟨h.fr,h.y,h.x,h.tx,Nat.le_trans h.t hij,h.tr⟩
theorem SInv.ok {n i:Nat} {s:VSt} (h:SInv n i s) (hi:i<=1000000):StOk s:=
 ⟨⟨Nat.le_trans h.x (by decide),by have:=h.y;have:=h.fr;omega,Nat.le_trans h.t hi⟩,fun _=>h.y,h.fr⟩
theorem trim_len (l:List Int):(trimT l).length<=l.length:=by unfold trimT;rw [List.length_take];omega
theorem trim_trim (l:List Int):trimT (trimT l)=trimT l:=trim_ext (getD_trim l)
theorem SInv.setX {n i:Nat} {s:VSt} (h:SInv n i s) {l:List Int} (hl:l.length<=256) (m:Bool) (r:Int):SInv n i {s with x:=trimT l,mt:=m,recv:=r}:=
 ⟨h.fr,h.y,Nat.le_trans (trim_len l) hl,trim_trim l,h.t,h.tr⟩
theorem cut_inv {n i:Nat} {s:VSt} (h:SInv n i s) (x:RIns):SInv n i (cutV s x):=by
 unfold cutV
 split
 ·exact h.setX (Nat.le_trans (List.length_take_le' _ _) h.x) _ _
 ·exact h
theorem put_inv {n i:Nat} {s:VSt} (h:SInv n i s) (a:RArg) (t:Int) (h1:a.kind=1->0<=a.n/\a.n<=255):SInv n i (putV s a t):=by
 unfold putV
 split
 ·rename_i k
  refine h.setX ?_ _ _
  unfold setN
  rw [List.length_set,List.length_append,List.length_replicate]
  have:=h1 k;have:=h.x
  omega
 ·split
  ·exact⟨h.fr,by show(s.y.set _ _).length=_;rw [List.length_set];exact h.y,h.x,h.tx,h.t,h.tr⟩
  ·exact h
theorem trim_one:trimT [1]= [1]:=by decide
theorem alone_inv {n i:Nat} {s:VSt} (h:SInv n i s):SInv n i (aloneV s):=⟨h.fr,h.y,by show([1]:List Int).length<=256;decide,trim_one,h.t,h.tr⟩
theorem peek_inv {n i:Nat} {s:VSt} (h:SInv n i s):SInv n i (peekV s):=⟨h.fr,by show(List.replicate s.y.length 1).length=_;rw [List.length_replicate];exact h.y,(alone_inv h).x,trim_one,h.t,h.tr⟩
theorem next_inv {u:RUnit} {i:Nat} {s:VSt} {x:RIns} (hs:SInv u.code.length i s) (hx:VIns u i x) (hi:i<u.code.length):SInv u.code.length (i+1) (nextV u i s x):=by
 have hc:=cut_inv hs x
 have hn:SInv u.code.length i (if x.dst.kind≠0 then putV (cutV s x) x.dst (resultV u s x)else cutV s x):=by
  split
  ·exact put_inv hc _ _ hx.dstx
  ·exact hc
 have hm:=fun{t:VSt} (h:SInv u.code.length i t)=>h.mono (Nat.le_succ i)
 unfold nextV
 simp only
 generalize(if x.dst.kind≠0 then putV (cutV s x) x.dst (resultV u s x)else cutV s x)=N at *
 generalize cutV s x=C at *
 split
 ·rename_i h9;exact hm (put_inv hc _ _ ((hx.srcs s (by omega)).2.x))
 ·split
  ·rename_i h9;exact hm (put_inv hc _ _ ((hx.srcs s (by omega)).2.x))
  ·split
   ·exact hm (alone_inv hc)
   ·split
    ·exact hm (peek_inv hc)
    ·split
     ·rename_i h24
      have:=hx.n24 h24
      exact hm ⟨by show -1<=x.n/\x.n<=8192;omega,by show(anysV x.n).length=x.n.toNat;unfold anysV;rw [List.length_replicate],hn.x,hn.tx,hn.t,hn.tr⟩
     ·split
      ·exact hm ⟨by show(-1:Int)<= -1/\(-1:Int)<=8192;omega,rfl,hn.x,hn.tx,hn.t,hn.tr⟩
      ·split
       ·rename_i h28
        refine⟨hn.fr,hn.y,hn.x,hn.tx,?_,?_⟩
        ·show(C.tries++ [x.to]).length<=i+1
         rw [List.length_append];have:=hc.t;simp;omega
        ·intro a ha
         rcases List.mem_append.1 ha with ha|ha
         ·exact hc.tr a ha
         ·rw [List.mem_singleton.1 ha];exact hx.t28 h28
       ·split
        ·refine⟨hn.fr,hn.y,hn.x,hn.tx,?_,fun a ha=>hc.tr a (List.mem_of_mem_take ha)⟩
         show(C.tries.take _).length<=i+1
         have:=hc.t
         rw [List.length_take];omega
        ·split
         ·exact hm ⟨hn.fr,hn.y,hn.x,hn.tx,hn.t,hn.tr⟩
         ·split
          ·exact hm ⟨hn.fr,hn.y,hn.x,hn.tx,hn.t,hn.tr⟩
          ·split
           ·exact hm ⟨hn.fr,hn.y,hn.x,hn.tx,hn.t,hn.tr⟩
           ·exact hm hn
theorem to_inv {n i:Nat} {s:VSt} (h:SInv n i s) (x:RIns):SInv n i (toV s x):=by
 unfold toV
 split
 ·have hp:=peek_inv (cut_inv h x)
  exact⟨hp.fr,hp.y,Nat.zero_le _,rfl,hp.t,hp.tr⟩
 ·split
  ·have hp:=cut_inv h x
   exact⟨hp.fr,hp.y,hp.x,hp.tx,hp.t,hp.tr⟩
  ·exact cut_inv h x
theorem trim_two:trimT [1,1]= [1,1]:=by decide
theorem hand_inv {n i:Nat} {s:VSt} (h:SInv n i s):SInv n i (handV s):=
 ⟨h.fr,h.y,by show([1,1]:List Int).length<=256;decide,trim_two,by show(s.tries.take _).length<=i;have:=h.t;rw [List.length_take];omega,fun a ha=>h.tr a (List.mem_of_mem_take ha)⟩
theorem getD_anys {n j:Nat} (h:j<n):(List.replicate n (1:Int)).getD j 0=1:=by
 rw [List.getD_eq_getElem?_getD,List.getElem?_replicate,if_pos h];rfl
theorem trim_anys (n:Nat):trimT (List.replicate n (1:Int))=List.replicate n 1:=by
 unfold trimT
 cases n with
 |zero=>rfl
 |succ n=>
  have:trimN (List.replicate (n+1) (1:Int)) (List.replicate (n+1) (1:Int)).length=n+1:=by
   rw [List.length_replicate,trimN,if_neg (by rw [getD_anys (Nat.lt_succ_self n)];decide)]
  rw [this,List.take_of_length_le (by simp)]
theorem entry_inv {n:Nat} {a:Int} (h:a<=256):SInv n 0 (entryV a):=
 ⟨by show(-1:Int)<= -1/\(-1:Int)<=8192;omega,rfl,by show(anysV a).length<=256;unfold anysV;rw [List.length_replicate];omega,trim_anys _,Nat.le_refl _,fun _ h=>by cases h⟩
theorem join_inv {n i:Nat} {a b:VSt} (ha:SInv n i a) (hb:SInv n i b) (hf:a.frame=b.frame):SInv n i (joinS a b):=by
 have hy:(joinL a.y b.y).length=a.frame.toNat:=by rw [joinL_len,ha.y,hb.y,<-hf];omega
 refine⟨ha.fr,hy,?_,trim_trim _,ha.t,ha.tr⟩
 show(trimT (joinL a.x b.x)).length<=256
 have h1:=trim_len (joinL a.x b.x)
 have h2:=joinL_len a.x b.x
 have:=ha.x
 omega
structure MInv (n i N:Nat) (m:VM):Prop where
 st:SInv n i m.st
 all: ∀t∈m.all,SInv n i t
 ne:m.all≠ []
 fr:m.wrong=0-> ∀t∈m.all,t.frame=m.st.frame
 wr:ErrV m.wrong
 num:m.all.length<=N
theorem MInv.mono {n i j N N':Nat} {m:VM} (h:MInv n i N m) (hij:i<=j) (hN:N<=N'):MInv n j N' m:=⟨h.st.mono hij,fun t ht=>(h.all t ht).mono hij,h.ne,h.fr,h.wr,Nat.le_trans h.num hN⟩
theorem worst_err (s:VSt): ∀(l:List VSt) (w:Int),ErrV w->ErrV (worstV s l w)
 |[],_,h=>h
 |t::l,w,h=>worst_err s l _ (worse_err s t h)
theorem worst_zero {s:VSt} {m:VM} (h:worstV s m.all m.wrong=0):m.wrong=0/\ ∀t∈m.all,clashV s t=0:=by
 obtain⟨h1,h2⟩:=worst_le (s:=s) m.all m.wrong
 refine⟨?_,fun t ht=>(h2 t ht).elim id fun h3=>absurd h h3.1⟩
 by_cases c:m.wrong=0
 ·exact c
 ·exact absurd h (h1 c).1
theorem MInv.frame {n i N:Nat} {m:VM} {s:VSt} (h:MInv n i N m) (hw:worstV s m.all m.wrong=0):m.st.frame=s.frame:=by
 obtain⟨h1,h2⟩:=worst_zero hw
 obtain⟨t,l,e⟩:=List.exists_cons_of_ne_nil h.ne
 have ht:t∈m.all:=by rw [e];exact List.mem_cons_self ..
 have h3:=(clash_zero.1 (h2 t ht)).1
 rw [h3,h.fr h1 t ht]
theorem add_inv {n i N:Nat} {mo:Option VM} {s:VSt} {m':VM} (h: ∀m,mo=some m->MInv n i N m) (hs:SInv n i s) (he:addV mo s=some m'):MInv n i (N+1) m':=by
 cases mo with
 |none=>
  have he:some (VM.mk s [s] 0)=some m':=he
  injection he with he
  subst he
  exact⟨hs,fun t ht=>by rw [List.mem_singleton.1 ht];exact hs,by simp,fun _ t ht=>by rw [List.mem_singleton.1 ht],.inl rfl,by simp⟩
 |some m=>
  have hm:=h m rfl
  have he:some (VM.mk (if worstV s m.all m.wrong=0 then joinS m.st s else m.st) (if knownV s m.all=true then m.all else m.all++ [s]) (worstV s m.all m.wrong))=some m':=he
  injection he with he
  subst he
  have hall: ∀t∈(if knownV s m.all=true then m.all else m.all++ [s]),t∈m.all\/t=s:=fun t ht=>by
   split at ht
   ·exact .inl ht
   ·rcases List.mem_append.1 ht with ht|ht
    ·exact .inl ht
    ·exact .inr (List.mem_singleton.1 ht)
  refine⟨?_,fun t ht=>(hall t ht).elim (hm.all t) fun e=>by rw [e];exact hs,?_,fun hw t ht=>?_,worst_err _ _ _ hm.wr,?_⟩
  ·show SInv n i (if worstV s m.all m.wrong=0 then joinS m.st s else m.st)
   split
   ·rename_i hw;exact join_inv hm.st hs (hm.frame hw)
   ·exact hm.st
  ·show(if knownV s m.all=true then m.all else m.all++ [s])≠ []
   split
   ·exact hm.ne
   ·simp
  ·have hw:worstV s m.all m.wrong=0:=hw
   show t.frame=(if worstV s m.all m.wrong=0 then joinS m.st s else m.st).frame
   rw [if_pos hw]
   show t.frame=m.st.frame
   rcases hall t ht with h1|h1
   ·exact hm.fr (worst_zero hw).1 t h1
   ·rw [h1,hm.frame hw]
  ·show(if knownV s m.all=true then m.all else m.all++ [s]).length<=N+1
   have:=hm.num
   split
   ·omega
   ·simp;omega
theorem firstE_zero {s:VSt}: ∀{l:List RArg},firstE s l=0-> ∀a∈l,kindE s a=0
 |[],_,a,h=>by cases h
 |b::l,h,a,ha=>by
  rw [firstE]at h
  by_cases c:kindE s b=0
  ·rw [if_neg (by simp [c])]at h
   rcases List.mem_cons.1 ha with rfl|ha
   ·exact c
   ·exact firstE_zero h a ha
  ·rw [if_pos c]at h;exact absurd h c
theorem eff_ok {u:RUnit} {i:Nat} {s:VSt} {x:RIns} (hs:SInv u.code.length i s) (hx:VIns u i x) (hc:checksV u i s x=0):EffOk u s x:=by
 have h1:operandsV u s x=0:=firstN_zero hc _ (by simp)
 have h2:triesV i s x=0:=checks_tries hc
 unfold operandsV at h1
 by_cases c:firstE s (readsV u x)=0
 ·rw [if_neg (by simp [c])]at h1
  have hd: ¬(x.dst.kind=2/\s.frame<=x.dst.n):=fun h=>by rw [if_pos h]at h1;exact absurd h1 (by decide)
  have hk:=firstE_zero c
  refine⟨fun e=>hx.srcs s (by omega),fun e=>?_,Nat.le_trans hx.srcLen (by decide),hx.dstx,fun e=>?_,hx.live,hx.n9,hx.n24,fun e hn=>?_⟩
  ·obtain⟨a,b⟩:=hx.srcs s (by omega)
   refine⟨a,b.x,fun e2=>?_⟩
   have hm:src0 x∈readsV u x:=by
    refine List.mem_append_left _ ?_
    unfold src0
    rw [List.headD_eq_head?_getD,List.head?_eq_getElem?,List.getElem?_eq_getElem a]
    exact List.getElem_mem a
   have h3:=hk _ hm
   unfold kindE at h3
   rw [if_neg (by omega),if_pos e2]at h3
   have h4: ¬s.frame<=(src0 x).n:=fun h=>by rw [if_pos h]at h3;exact absurd h3 (by decide)
   have:=b.y e2;have:=hs.y
   omega
  ·have:=hx.dsty e;have:=hs.y
   have: ¬s.frame<=x.dst.n:=fun h=>hd ⟨e,h⟩
   omega
  ·unfold triesV at h2
   rw [hn,if_pos (show([]:List Int).length=0 from rfl),if_pos e]at h2
   exact absurd h2 (by decide)
 ·rw [if_pos c]at h1;exact absurd h1 c
def AInv (n i N:Nat) (M:Nat->Option VM):Prop:= ∀j m,M j=some m->MInv n i N m
theorem AInv.mono {n i j N N':Nat} {M:Nat->Option VM} (h:AInv n i N M) (hij:i<=j) (hN:N<=N'):AInv n j N' M:=fun k m e=>(h k m e).mono hij hN
theorem putM_inv {n i N:Nat} {M:Nat->Option VM} (h:AInv n i N M) {p:Nat × VSt} (hs:SInv n i p.2):AInv n i (N+1) (putM M p):=by
 intro j m e
 unfold putM at e
 split at e
 ·exact add_inv (fun m' e'=>h j m' e') hs e
 ·exact(h j m e).mono (Nat.le_refl _) (Nat.le_succ _)
theorem AInv.nil (n i N:Nat):AInv n i N (fun _=>none):=fun _ _ e=>by cases e
structure VEnv (w0 w:World) (E U mb:Nat) (at':Int) (u:RUnit) (lo fo go co:Option Addr) (lc fc gc cc mc:Nat):Prop where
 ex:w.heap[E]?=some (.cells #[.pointer (some ⟨U,0,none⟩),.slice (some ⟨mb,0,none⟩) u.code.length mc,.int .i64 at'] 179 (0,0))
 bx:UBox w0 U u lo fo go co lc fc gc cc
 up:UP w0 u lo fo go co
 bl:Below w0.heap.size w0 w
 le:w0.heap.size<=mb
section
variable {w0 w w':World} {E U mb:Nat} {at':Int} {u:RUnit} {lo fo go co:Option Addr} {lc fc gc cc mc:Nat}
theorem VEnv.cx (h:VEnv w0 w E U mb at' u lo fo go co lc fc gc cc mc):VCx w E U mb at' u lo fo go co lc fc gc cc mc:=⟨h.ex,h.bx.below h.bl,h.up.below h.bl⟩
theorem VEnv.below (h:VEnv w0 w E U mb at' u lo fo go co lc fc gc cc mc) (hb:Below w.heap.size w w'):VEnv w0 w' E U mb at' u lo fo go co lc fc gc cc mc:=
 ⟨(hb.block E (lt_of_row h.ex)).trans h.ex,h.bx,h.up,h.bl.trans (hb.mono h.bl.size),h.le⟩
theorem VEnv.add (h:VEnv w0 w E U mb at' u lo fo go co lc fc gc cc mc) (k:KeepT w w') (b:Below mb w w'):VEnv w0 w' E U mb at' u lo fo go co lc fc gc cc mc:=
 ⟨k.2 E _ _ _ h.ex (by decide) (by decide),h.bx,h.up,h.bl.trans (b.mono h.le),h.le⟩
end
def AddK (mb:Nat) (w w':World):Prop:=KeepT w w'/\Below mb w w'
theorem AddK.refl (mb:Nat) (w:World):AddK mb w w:=⟨.refl _,Below.refl _ _⟩
theorem AddK.trans {mb:Nat} {a b c:World} (h:AddK mb a b) (k:AddK mb b c):AddK mb a c:=⟨h.1.trans k.1,h.2.trans k.2⟩
theorem AddK.below {mb:Nat} {w w':World} (hm:mb<=w.heap.size) (h:Below w.heap.size w w'):AddK mb w w':=⟨.below h,h.mono hm⟩
theorem MeetAt.below {w w':World} {mb len:Nat} {M:Nat->Option VM} {cs:Array Value} {g:Nat->Nat} (h:MeetAt w mb len M cs g) (hb:Below w.heap.size w w'):MeetAt w' mb len M cs g:=
 ⟨(hb.block mb (lt_of_row h.row)).trans h.row,h.size,h.inj,fun k hk=>by
  obtain⟨pv,av,wv,f0,f1,f2,h1⟩:=h.one k hk
  exact⟨pv,av,wv,f0,f1,f2,h1.stay (.below hb) fun hn=>hb.block _ (h.lt hk hn).2⟩⟩
theorem MeetAt.mb {w:World} {mb len:Nat} {M:Nat->Option VM} {cs:Array Value} {g:Nat->Nat} (h:MeetAt w mb len M cs g):mb<w.heap.size:=lt_of_row h.row
theorem addOk_of {n i N k:Nat} {M:Nat->Option VM} {s:VSt} (h:AInv n i N M) (hs:SInv n i s) (hi:i<=1000000) (hN:N<=1000000000000):AddOk (M k) s:=
 ⟨fun m e=>((h k m e).st.ok hi).len,fun m e t ht=>(((h k m e).all t ht).ok hi).len,fun m e=>Nat.le_trans (h k m e).num hN,fun m e hw=>by rw [(h k m e).st.y,hs.y,(h k m e).frame hw],fun m e=>(h k m e).wr⟩
def MeetI (w:World) (mb n i N:Nat) (M:Nat->Option VM):Prop:=(∃cs g,MeetAt w mb n M cs g)/\AInv n i N M
theorem MeetI.below {w w':World} {mb n i N:Nat} {M:Nat->Option VM} (h:MeetI w mb n i N M) (hb:Below w.heap.size w w'):MeetI w' mb n i N M:=
 ⟨h.1.elim fun cs h=>h.elim fun g h=>⟨cs,g,h.below hb⟩,h.2⟩
theorem MeetI.mb {w:World} {mb n i N:Nat} {M:Nat->Option VM} (h:MeetI w mb n i N M):mb<w.heap.size:=by
 obtain⟨⟨cs,g,h⟩,-⟩:=h;exact h.mb
theorem MeetI.mono {w:World} {mb n i j N N':Nat} {M:Nat->Option VM} (h:MeetI w mb n i N M) (hij:i<=j) (hN:N<=N'):MeetI w mb n j N' M:=⟨h.1,h.2.mono hij hN⟩
theorem vaddI_any (mb n i N k q:Nat) (M:Nat->Option VM) (s:VSt) (w:World) (h:MeetI w mb n i N M) (hk:k<n) (hs:StAt w q s) (hS:SInv n i s) (hi:i<=1000000) (hN:N<=1000000000000):
  Calls Tryz.prog 88 #[.pointer (some ⟨mb,k*3,none⟩),.pointer (some ⟨q,0,none⟩)] w fun e w'=>e= .returned (.tuple #[])/\MeetI w' mb n i (N+1) (putM M (k,s))/\AddK mb w w':=by
 obtain⟨⟨cs,g,hm⟩,hA⟩:=h
 refine(vadd_any mb n k q M s cs g w hm hk hs (hS.ok hi).len (addOk_of hA hS hi hN)).mono ?_
 rintro e w' ⟨rfl,h1,h2,h3⟩
 exact⟨rfl,⟨h1,putM_inv hA hS⟩,h2,h3⟩
section
variable {w:World} {Y i:Nat} {v:Value} {cs:Array Value} {fr:Nat × Nat}
theorem row_setFar {b:Nat} {cs':Array Value} {T T':TypeId} {fr':Nat × Nat} (hb:w.heap[b]?=some (.cells cs' T' fr')) (hY:w.heap[Y]?=some (.cells cs T fr)) (hT:T≠T'):(w.setCell ⟨Y,i,none⟩ v).heap[b]?=some (.cells cs' T' fr'):=
 (heap_setCell_other w ⟨Y,i,none⟩ b v (fun h=>by
  have h':b=Y:=h
  rw [h',hY]at hb
  exact hT (by injection hb with hb;injection hb))).trans hb
theorem StAt.setFar {b:Nat} {s:VSt} (h:StAt w b s) (hY:w.heap[Y]?=some (.cells cs 179 fr)):StAt (w.setCell ⟨Y,i,none⟩ v) b s:=by
 obtain⟨xo,xc,yo,yc,to',tc,hr,hl⟩:=h
 exact⟨xo,xc,yo,yc,to',tc,row_setFar hr hY (by decide),⟨hl.x.setFar hY (by decide),hl.y.setFar hY (by decide),hl.t.setFar hY (by decide),hl.xl,hl.yl,hl.tl⟩⟩
theorem MOne.setFar {mb g:Nat} {pv av wv:Value} {mo:Option VM} (h:MOne w mb pv av wv g mo) (hY:w.heap[Y]?=some (.cells cs 179 fr)):MOne (w.setCell ⟨Y,i,none⟩ v) mb pv av wv g mo:=by
 cases mo with
 |none=>exact h
 |some m=>
  obtain⟨⟨b,e1,h1⟩,e2,ps,e3,h2,h3,h4⟩:=h
  exact⟨⟨b,e1,h1.setFar hY⟩,e2,ps,e3,fun j a b=>(h2 j a b).setFar hY,⟨h3.1,h3.2.imp id fun⟨g',cap,cur,a,b,c,d⟩=>⟨g',cap,cur,a,b,row_setFar c hY (by decide),d⟩⟩,h4⟩
theorem MeetI.setFar {mb n j N:Nat} {M:Nat->Option VM} (h:MeetI w mb n j N M) (hY:w.heap[Y]?=some (.cells cs 179 fr)):MeetI (w.setCell ⟨Y,i,none⟩ v) mb n j N M:=
 ⟨h.1.elim fun cs' h=>h.elim fun g h=>⟨cs',g,row_setFar h.row hY (by decide),h.size,h.inj,fun k hk=>by
  obtain⟨pv,av,wv,f0,f1,f2,h1⟩:=h.one k hk
  exact⟨pv,av,wv,f0,f1,f2,h1.setFar hY⟩⟩,h.2⟩
theorem VEnv.setAt {w0:World} {E U mb:Nat} {a:Int} {u:RUnit} {lo fo go co:zzA} {lc fc gc cc mc:Nat} (h:VEnv w0 w E U mb a u lo fo go co lc fc gc cc mc) (hE:w0.heap.size<=E) (a':Int):
  VEnv w0 (w.setCell ⟨E,2,none⟩ (.int .i64 a')) E U mb a' u lo fo go co lc fc gc cc mc:=
 ⟨heap_setCell_same w E 2 _ _ _ h.ex,h.bx,h.up,h.bl.setCell (p:=⟨E,2,none⟩) hE _,h.le⟩
end
theorem infoMeet:(Tryz.prog.info? 183).map (fun i=>(i.zero,i.size,i.bytes))=some (some (.agg #[.pointer none,.slice none 0 0,.int .i64 0]),3,40):=by kernel_rfl
theorem mkMeets (n:Nat) (hn:n<=1000000): ∃arr:Array Value,arr.size=n*3/\(∀k,k<n->arr[k*3]?=some (.pointer none)/\arr[k*3+1]?=some (.slice none 0 0)/\arr[k*3+2]?=some (.int .i64 0)) /\
  ∀wx:World,(Instr.makeSlice 177 (.int .i64 (n:Int)) (.int .i64 (n:Int))).run Tryz.prog wx= .ok (.slice (some ⟨wx.heap.size,0,none⟩) n n) (wx.alloc (.cells arr 183)):=by
 obtain⟨i0,hi,hz0,hz1,hz2⟩:=info_parts infoMeet
 refine⟨madeCells (Value.agg #[.pointer none,.slice none 0 0,.int .i64 0]).cells (n*i0.size),by rw [size_madeCells,hz1],fun k hk=>?_,fun wx=>?_⟩
 ·rw [hz1]
  have h3:(Value.agg #[.pointer none,.slice none 0 0,.int .i64 0]).cells=#[.pointer none,.slice none 0 0,.int .i64 0]:=by rfl
  rw [h3]
  have e0:k*3%3=0:=by omega
  have e1:(k*3+1)%3=1:=by omega
  have e2:(k*3+2)%3=2:=by omega
  unfold madeCells
  refine⟨?_,?_,?_⟩
  ·rw [Array.getElem?_map,Array.getElem?_range,if_pos (by omega)];simp [e0]
  ·rw [Array.getElem?_map,Array.getElem?_range,if_pos (by omega)];simp [e1]
  ·rw [Array.getElem?_map,Array.getElem?_range,if_pos (by omega)];simp [e2]
 ·have:=run_make (P:=Tryz.prog) wx 177 183 i0 _ Tryz.underlying177 hi hz0 .i64 .i64 n n (by omega) (Int.le_refl _) (by rw [hz2];omega) (by omega)
  simpa only [Int.toNat_natCast] using this
theorem meet_start {w:World} {mb n:Nat} {arr:Array Value} (hr:w.heap[mb]?=some (.cells arr 183 (0,0))) (hs:arr.size=n*3) (ha: ∀k,k<n->arr[k*3]?=some (.pointer none)/\arr[k*3+1]?=some (.slice none 0 0)/\arr[k*3+2]?=some (.int .i64 0)) (i N:Nat):MeetI w mb n i N (fun _=>none):=
 ⟨⟨arr,fun _=>0,hr,hs,fun _ _ _ _ _ h=>absurd rfl h,fun k hk=>⟨_,_,_,(ha k hk).1,(ha k hk).2.1,(ha k hk).2.2,rfl,rfl,rfl⟩⟩,AInv.nil _ _ _⟩
def chkRow:Array Value:=#[.func (.func 125) #[] #[],.func (.func 126) #[] #[],.func (.func 127) #[] #[],.func (.func 128) #[] #[],.func (.func 130) #[] #[],.func (.func 132) #[] #[]]
theorem vchecks_any (w:World):Calls Tryz.prog 90 #[] w fun e w'=>e= .returned (.slice (some ⟨w.heap.size,0,none⟩) 6 6)/\w'.heap[w.heap.size]?=some (.cells chkRow 191 (0,0))/\Below w.heap.size w w':=by
 have h1:=heap_alloc_new w (.cells chkRow 191)
 have h2:=(Below.refl w.heap.size w).alloc (Nat.le_refl _) (.cells chkRow 191)
 have H1:=Lib.hid h1;have H2:=Lib.hid h2
 clear h1 h2
 go_in
 go_wp2_with fail
 go_ret
 exact⟨rfl,H1.out,H2.out⟩
end Go.Proofs.YtponljdhfoipjaaGreatDoor
