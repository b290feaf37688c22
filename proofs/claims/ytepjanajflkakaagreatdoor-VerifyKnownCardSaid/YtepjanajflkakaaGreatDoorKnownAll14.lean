/- part 14 -/
import Derived.Laws.MakeOwn
import Derived.StillTailTactics
import Derived.Test.YtepjanajflkakaaGreatDoorKnownAll08
import Derived.Test.YtepjanajflkakaaGreatDoorKnownAll09
import Derived.Test.YtepjanajflkakaaGreatDoorKnownAll10
import Derived.Test.YtepjanajflkakaaGreatDoorKnownAll11
import Derived.Test.YtepjanajflkakaaGreatDoorKnownAll12
import Derived.Test.YtepjanajflkakaaGreatDoorKnownAll13
namespace Go.Proofs.YtepjanajflkakaaGreatDoor
open Go.RowKit
set_option linter.unusedVariables false
set_option linter.unusedSimpArgs false
set_option maxRecDepth 100000
set_option maxHeartbeats 40000000
def opOk (op:Int):Bool:=decide (1<=op/\op<=40)
def rowAt (op:Int):Int × Int × Int:=(rowT[op.toNat]?).getD (0,0,0)
def insB (u:RUnit) (i:Nat) (x:RIns):Bool:=
 opOk x.op&&(fieldsB u.lits.length x (rowAt x.op).1.toNat (rowAt x.op).2.1.toNat (rowAt x.op).2.2.toNat&&(numberB u.funcs.length u.funs x&&(namedB x&&(listsB u.lits x&&targetsB u.code i x (rowAt x.op).1.toNat))))
def badFrom (u:RUnit):List RIns->Nat->Option Nat
 |[],_=>none
 |x::l,i=>if insB u i x=true then badFrom u l (i+1)else some i
def checkI (f:Nat) (u:RUnit):Int:=if tablesB f u=true then(match badFrom u u.code 0 with|some i=>(i:Int)|none=>0)else -1
def checkE (f:Nat) (u:RUnit):Int:=if tablesB f u=true then(match badFrom u u.code 0 with|some _=>6|none=>0)else 6
theorem bad_step (u:RUnit) {l:List RIns} {k:Nat} (h:k<l.length):badFrom u (l.drop k) k=if insB u k l[k]=true then badFrom u (l.drop (k+1)) (k+1)else some k:=by
 rw [List.drop_eq_getElem_cons h,badFrom]
theorem rowT_nat: ∀k,(h:k<41)->0<=(rowT[k]'h).1/\(rowT[k]'h).1<1000/\0<=(rowT[k]'h).2.1/\(rowT[k]'h).2.1<1000/\0<=(rowT[k]'h).2.2/\(rowT[k]'h).2.2<1000:=by decide
theorem rowOf_at {op:Int} (h:1<=op/\op<=40) (w:World) (hr:RowsAt w):
  Calls Tryz.prog 39 #[.int .i64 op] w fun e w'=>e= .returned (.tuple #[.agg #[.int .i64 ((rowAt op).1.toNat:Nat),.int .i64 ((rowAt op).2.1.toNat:Nat),.int .i64 ((rowAt op).2.2.toNat:Nat)],.bool true])/\Below w.heap.size w w':=by
 obtain⟨k,rfl⟩: ∃k:Nat,op=(k:Int):=⟨op.toNat,by omega⟩
 have hk:k<41:=by omega
 have h1:=rowOf_yes k (by omega) hk w hr
 obtain⟨a,b,c,d,e,g⟩:=rowT_nat k hk
 have hra:rowAt (k:Int)=rowT[k]'hk:=by unfold rowAt;rw [Int.toNat_natCast,List.getElem?_eq_getElem (by exact hk)];rfl
 rw [hra,Int.toNat_of_nonneg a,Int.toNat_of_nonneg c,Int.toNat_of_nonneg e]
 exact h1
theorem rowAt_lt {op:Int}:(rowAt op).1.toNat<1000/\(rowAt op).2.1.toNat<1000/\(rowAt op).2.2.toNat<1000:=by
 unfold rowAt
 by_cases h:op.toNat<41
 ·obtain⟨a,b,c,d,e,g⟩:=rowT_nat op.toNat h
  rw [List.getElem?_eq_getElem (by exact h)]
  simp only [Option.getD_some]
  omega
 ·rw [List.getElem?_eq_none (by exact Nat.le_of_not_lt h)]
  simp
theorem ret_ii {k k':IntKind} {a b c d:Int} (h:a=b) (h':c=d):Ending.returned (.tuple #[.int k a,.int k' c])= .returned (.tuple #[.int k b,.int k' d]):=by rw [h,h']
theorem lits_valid {f:Nat} {u:RUnit} (h:tablesB f u=true): ∀t∈u.lits,validF f t=true:=by
 unfold tablesB at h
 rw [Bool.and_eq_true,Bool.and_eq_true]at h
 exact List.all_eq_true.1 h.2.1
theorem check_any (f:Nat) (u:RUnit) (lo fo go co:Option Addr) (lc fc gc cc:Nat) (w:World) (hrows:RowsAt w) (hsp:SpaceAt w) (hp:UP w u lo fo go co) (hlits:SlAt w 9 (TmAt w (f+1)) lo u.lits) (hcap: ∀t∈u.lits,(capF (f+1) t:Int)<=1152921504606846976) (hnm: ∀x∈u.code,x.name.size<=140737488355328):
  Calls Tryz.prog 16 #[.agg #[.string u.mdl,.int .i64 u.vsn,.slice lo u.lits.length lc,.slice fo u.funcs.length fc,.slice go u.funs.length gc,.slice co u.code.length cc]] w fun e w'=>e= .returned (.tuple #[.int .i64 (checkI (f+1) u),.int .i64 (checkE (f+1) u)])/\Below w.heap.size w w':=by
 have HP:=Lib.hid hp;have HRW:=Lib.hid hrows;have HSP:=Lib.hid hsp;have HLI:=Lib.hid hlits;have HCAP:=Lib.hid hcap;have HNM:=Lib.hid hnm
 clear hrows hsp hp hlits hcap hnm
 have hbx:=ubox_new w u lo fo go co lc fc gc cc
 have hba:Below w.heap.size w (w.alloc (.cells #[.string u.mdl,.int .i64 u.vsn,.slice lo u.lits.length lc,.slice fo u.funcs.length fc,.slice go u.funs.length gc,.slice co u.code.length cc] 27)):=(Below.refl _ _).alloc (Nat.le_refl _) _
 have hT:=tables_any f w.heap.size u lo fo go co lc fc gc cc _ hbx (HP.out.below hba) (HLI.out.tms hba) HCAP.out
 have HBX:=Lib.hid hbx;have HBA:=Lib.hid hba
 have EI:Hid (checkI (f+1) u=if tablesB (f+1) u=true then(match badFrom u u.code 0 with|some i=>(i:Int)|none=>0)else -1):=Lib.hid rfl
 have EE:Hid (checkE (f+1) u=if tablesB (f+1) u=true then(match badFrom u u.code 0 with|some _=>6|none=>0)else 6):=Lib.hid rfl
 clear hbx hba
 cases htb:tablesB (f+1) u with
 |false=>
  rw [htb]at hT EI EE
  rw [if_neg (by decide)]at EI EE
  clear htb
  go_enter Tryz.func16,Tryz.ntmps16
  go_wp2_with fail
  refine hT.mono ?_
  rintro e w5 ⟨rfl,hb5⟩
  go_wp2_with fail
  go_ret2
  exact⟨ret_ii EI.out.symm EE.out.symm,below_next HBA.out hb5⟩
 |true=>
  rw [htb]at hT EI EE
  rw [if_pos rfl]at EI EE
  have HLV:=Lib.hid (lits_valid htb)
  have HI:Hid (badFrom u u.code 0=badFrom u (u.code.drop 0) 0):=Lib.hid rfl
  clear htb
  have hcl:=HP.out.codeLen
  go_enter Tryz.func16,Tryz.ntmps16
  go_wp2_with fail
  refine hT.mono ?_
  rintro e w5 ⟨rfl,hb5⟩
  have HB5:=Lib.hid (below_next HBA.out hb5)
  have HU5:=Lib.hid (HBX.out.below hb5)
  have d5:=HU5.out.c5
  have hsz:w.heap.size<=w5.heap.size:=HB5.out.size
  clear hb5 hT HBX HBA
  generalize hBe:w.heap.size=B at *
  have HBE:=Lib.hid hBe
  clear hBe
  go_wp2_with fail
  go_loopw [13] (fun i wr=> ∃k:Nat,k<=u.code.length/\i= .int .i64 k/\Hid (badFrom u u.code 0=badFrom u (u.code.drop k) k)/\Below w5.heap.size w5 wr) (fun i _=>u.code.length-(intOf i).toNat)
  case atStart=>exact⟨0,Nat.zero_le _,rfl,HI,Below.refl _ _⟩
  case round=>
   obtain⟨k,hk,rfl,HK,hBw⟩:=hrel
   rename World=>wr
   by_cases hlt:k<u.code.length
   ·have HFW:Hid (Below w.heap.size w wr):=Lib.hid (by rw [HBE.out];exact HB5.out.trans (hBw.mono hsz))
    obtain⟨bc,oc,so,co',go',sc,cc',gc',hco,hxb⟩:=ibox_of (HP.out.below HFW.out).code hlt
    subst hco
    have HST:=Lib.hid (bad_step u hlt)
    have hui:=HU5.out.below hBw
    have e5:=hui.c5
    have c0:=hxb.c0
    have hbl:=hxb.lt
    have hBl:=hui.lt
    have hll:=HP.out.litsLen
    have hrl:= @rowAt_lt u.code[k].op
    have HINS:Hid (insB u k u.code[k]=(opOk u.code[k].op&&(fieldsB u.lits.length u.code[k] (rowAt u.code[k].op).1.toNat (rowAt u.code[k].op).2.1.toNat (rowAt u.code[k].op).2.2.toNat&&(numberB u.funcs.length u.funs u.code[k]&&(namedB u.code[k]&&(listsB u.lits u.code[k]&&targetsB u.code k u.code[k] (rowAt u.code[k].op).1.toNat)))))):=Lib.hid rfl
    have cf:=fun wx (hx:Below wr.heap.size wr wx)=>fields_any B u lo fo go (some ⟨bc,oc,none⟩) lc fc gc cc bc (oc+k*10) u.code[k] so co' go' sc cc' gc' (rowAt u.code[k].op).1.toNat (rowAt u.code[k].op).2.1.toNat (rowAt u.code[k].op).2.2.toNat wx (hui.below hx) hll (hxb.below hx) hrl.1 hrl.2.1 hrl.2.2
    have cn:=fun wx (hx:Below wr.heap.size wr wx)=>number_any B u lo fo go (some ⟨bc,oc,none⟩) lc fc gc cc bc (oc+k*10) u.code[k] so co' go' sc cc' gc' wx (hui.below hx) HP.out.funcsLen HP.out.funsLen ((HP.out.below HFW.out).below hx).funs (hxb.below hx)
    have cm:=fun wx (hx:Below wr.heap.size wr wx)=>named_any bc (oc+k*10) u.code[k] so co' go' sc cc' gc' wx ((HSP.out.below HFW.out).below hx) (hxb.below hx) (HNM.out _ (List.getElem_mem hlt))
    have cl:=fun wx (hx:Below wr.heap.size wr wx)=>lists_any B u lo fo go (some ⟨bc,oc,none⟩) lc fc gc cc bc (oc+k*10) u.code[k] so co' go' sc cc' gc' f wx (hui.below hx) hll ⟨(HLI.out.tms HFW.out).tms hx,fun t ht=>⟨HLV.out t ht,HCAP.out t ht⟩⟩ (hxb.below hx)
    have ct:=fun wx (hx:Below wr.heap.size wr wx)=>targets_any B u lo fo go lc fc gc cc bc oc k (rowAt u.code[k].op).1.toNat (rowAt u.code[k].op).2.1.toNat (rowAt u.code[k].op).2.2.toNat so co' go' sc cc' gc' wx (hui.below hx) ((HP.out.below HFW.out).below hx).code hcl hlt u.code[k] (hxb.below hx) hrl.1
    have CF:=Lib.hid cf;have CN:=Lib.hid cn;have CM:=Lib.hid cm;have CL:=Lib.hid cl;have CT:=Lib.hid ct
    clear cf cn cm cl ct hrl hxb hui
    by_cases hop:1<=u.code[k].op/\u.code[k].op<=40
    ·have hro:=rowOf_at hop wr (HRW.out.below HFW.out)
     have hok1:opOk u.code[k].op=true:=by unfold opOk;exact decide_eq_true hop
     rw [hok1]at HINS
     clear hop hok1
     generalize fieldsB u.lits.length u.code[k] (rowAt u.code[k].op).1.toNat (rowAt u.code[k].op).2.1.toNat (rowAt u.code[k].op).2.2.toNat=b1 at *
     generalize targetsB u.code k u.code[k] (rowAt u.code[k].op).1.toNat=b5 at *
     generalize numberB u.funcs.length u.funs u.code[k]=b2 at *
     generalize namedB u.code[k]=b3 at *
     generalize listsB u.lits u.code[k]=b4 at *
     generalize insB u k u.code[k]=ib at *
     generalize(rowAt u.code[k].op).1.toNat=h at *
     generalize(rowAt u.code[k].op).2.1.toNat=l1 at *
     generalize(rowAt u.code[k].op).2.2.toNat=l2 at *
     generalize u.code[k].op=op at *
     have hbad:ib=false->badFrom u u.code 0=some k:=fun e=>by rw [HK.out,HST.out,e];rfl
     have hgood:ib=true->badFrom u u.code 0=badFrom u (u.code.drop (k+1)) (k+1):=fun e=>by rw [HK.out,HST.out,e];rfl
     have HBAD:=Lib.hid hbad;have HGOOD:=Lib.hid hgood
     clear hbad hgood
     cases b1 with
     |false=>
      have hb:=HBAD.out (by rw [HINS.out];rfl)
      have E1:Hid (checkI (f+1) u=k):=Lib.hid (by rw [EI.out,hb])
      have E2:Hid (checkE (f+1) u=6):=Lib.hid (by rw [EE.out,hb])
      clear hb
      go_wp2_with fail
      refine hro.mono ?_
      rintro e w6 ⟨rfl,hb6⟩
      have HW:=Lib.hid (hb6.alloc hb6.size (.cells #[.int .i64 (h:Nat),.int .i64 (l1:Nat),.int .i64 (l2:Nat)] 97))
      have hR:=heap_alloc_new w6 (.cells #[.int .i64 (h:Nat),.int .i64 (l1:Nat),.int .i64 (l2:Nat)] 97)
      have HR:=Lib.hid hR
      have HWW:=Lib.hid (Below.refl (w6.alloc (.cells #[.int .i64 (h:Nat),.int .i64 (l1:Nat),.int .i64 (l2:Nat)] 97)).heap.size (w6.alloc (.cells #[.int .i64 (h:Nat),.int .i64 (l1:Nat),.int .i64 (l2:Nat)] 97)))
      clear hb6 hR
      go_wp2_with fail
      generalize w6.alloc (.cells #[.int .i64 (h:Nat),.int .i64 (l1:Nat),.int .i64 (l2:Nat)] 97)=W6 at *
      generalize w6.heap.size=R at *
      refine(CF.out _ HW.out).mono ?_
      rintro e v0 ⟨rfl,hc0⟩
      have HV0:=Lib.hid (below_next HW.out hc0)
      have HZ0:=Lib.hid (below_next HWW.out hc0)
      clear hc0
      go_wp2_with fail
      go_ret2
      exact⟨ret_ii E1.out.symm E2.out.symm,HFW.out.trans (HV0.out.mono HFW.out.size)⟩
     |true=>
      cases b2 with
      |false=>
       have hb:=HBAD.out (by rw [HINS.out];rfl)
       have E1:Hid (checkI (f+1) u=k):=Lib.hid (by rw [EI.out,hb])
       have E2:Hid (checkE (f+1) u=6):=Lib.hid (by rw [EE.out,hb])
       clear hb
       go_wp2_with fail
       refine hro.mono ?_
       rintro e w6 ⟨rfl,hb6⟩
       have HW:=Lib.hid (hb6.alloc hb6.size (.cells #[.int .i64 (h:Nat),.int .i64 (l1:Nat),.int .i64 (l2:Nat)] 97))
       have hR:=heap_alloc_new w6 (.cells #[.int .i64 (h:Nat),.int .i64 (l1:Nat),.int .i64 (l2:Nat)] 97)
       have HR:=Lib.hid hR
       have HWW:=Lib.hid (Below.refl (w6.alloc (.cells #[.int .i64 (h:Nat),.int .i64 (l1:Nat),.int .i64 (l2:Nat)] 97)).heap.size (w6.alloc (.cells #[.int .i64 (h:Nat),.int .i64 (l1:Nat),.int .i64 (l2:Nat)] 97)))
       clear hb6 hR
       go_wp2_with fail
       generalize w6.alloc (.cells #[.int .i64 (h:Nat),.int .i64 (l1:Nat),.int .i64 (l2:Nat)] 97)=W6 at *
       generalize w6.heap.size=R at *
       refine(CF.out _ HW.out).mono ?_
       rintro e v0 ⟨rfl,hc0⟩
       have HV0:=Lib.hid (below_next HW.out hc0)
       have HZ0:=Lib.hid (below_next HWW.out hc0)
       clear hc0
       go_wp2_with fail
       refine(CN.out _ HV0.out).mono ?_
       rintro e v1 ⟨rfl,hc1⟩
       have HV1:=Lib.hid (below_next HV0.out hc1)
       have HZ1:=Lib.hid (below_next HZ0.out hc1)
       clear hc1
       go_wp2_with fail
       go_ret2
       exact⟨ret_ii E1.out.symm E2.out.symm,HFW.out.trans (HV1.out.mono HFW.out.size)⟩
      |true=>
       cases b3 with
       |false=>
        have hb:=HBAD.out (by rw [HINS.out];rfl)
        have E1:Hid (checkI (f+1) u=k):=Lib.hid (by rw [EI.out,hb])
        have E2:Hid (checkE (f+1) u=6):=Lib.hid (by rw [EE.out,hb])
        clear hb
        go_wp2_with fail
        refine hro.mono ?_
        rintro e w6 ⟨rfl,hb6⟩
        have HW:=Lib.hid (hb6.alloc hb6.size (.cells #[.int .i64 (h:Nat),.int .i64 (l1:Nat),.int .i64 (l2:Nat)] 97))
        have hR:=heap_alloc_new w6 (.cells #[.int .i64 (h:Nat),.int .i64 (l1:Nat),.int .i64 (l2:Nat)] 97)
        have HR:=Lib.hid hR
        have HWW:=Lib.hid (Below.refl (w6.alloc (.cells #[.int .i64 (h:Nat),.int .i64 (l1:Nat),.int .i64 (l2:Nat)] 97)).heap.size (w6.alloc (.cells #[.int .i64 (h:Nat),.int .i64 (l1:Nat),.int .i64 (l2:Nat)] 97)))
        clear hb6 hR
        go_wp2_with fail
        generalize w6.alloc (.cells #[.int .i64 (h:Nat),.int .i64 (l1:Nat),.int .i64 (l2:Nat)] 97)=W6 at *
        generalize w6.heap.size=R at *
        refine(CF.out _ HW.out).mono ?_
        rintro e v0 ⟨rfl,hc0⟩
        have HV0:=Lib.hid (below_next HW.out hc0)
        have HZ0:=Lib.hid (below_next HWW.out hc0)
        clear hc0
        go_wp2_with fail
        refine(CN.out _ HV0.out).mono ?_
        rintro e v1 ⟨rfl,hc1⟩
        have HV1:=Lib.hid (below_next HV0.out hc1)
        have HZ1:=Lib.hid (below_next HZ0.out hc1)
        clear hc1
        go_wp2_with fail
        refine(CM.out _ HV1.out).mono ?_
        rintro e v2 ⟨rfl,hc2⟩
        have HV2:=Lib.hid (below_next HV1.out hc2)
        have HZ2:=Lib.hid (below_next HZ1.out hc2)
        clear hc2
        go_wp2_with fail
        go_ret2
        exact⟨ret_ii E1.out.symm E2.out.symm,HFW.out.trans (HV2.out.mono HFW.out.size)⟩
       |true=>
        cases b4 with
        |false=>
         have hb:=HBAD.out (by rw [HINS.out];rfl)
         have E1:Hid (checkI (f+1) u=k):=Lib.hid (by rw [EI.out,hb])
         have E2:Hid (checkE (f+1) u=6):=Lib.hid (by rw [EE.out,hb])
         clear hb
         go_wp2_with fail
         refine hro.mono ?_
         rintro e w6 ⟨rfl,hb6⟩
         have HW:=Lib.hid (hb6.alloc hb6.size (.cells #[.int .i64 (h:Nat),.int .i64 (l1:Nat),.int .i64 (l2:Nat)] 97))
         have hR:=heap_alloc_new w6 (.cells #[.int .i64 (h:Nat),.int .i64 (l1:Nat),.int .i64 (l2:Nat)] 97)
         have HR:=Lib.hid hR
         have HWW:=Lib.hid (Below.refl (w6.alloc (.cells #[.int .i64 (h:Nat),.int .i64 (l1:Nat),.int .i64 (l2:Nat)] 97)).heap.size (w6.alloc (.cells #[.int .i64 (h:Nat),.int .i64 (l1:Nat),.int .i64 (l2:Nat)] 97)))
         clear hb6 hR
         go_wp2_with fail
         generalize w6.alloc (.cells #[.int .i64 (h:Nat),.int .i64 (l1:Nat),.int .i64 (l2:Nat)] 97)=W6 at *
         generalize w6.heap.size=R at *
         refine(CF.out _ HW.out).mono ?_
         rintro e v0 ⟨rfl,hc0⟩
         have HV0:=Lib.hid (below_next HW.out hc0)
         have HZ0:=Lib.hid (below_next HWW.out hc0)
         clear hc0
         go_wp2_with fail
         refine(CN.out _ HV0.out).mono ?_
         rintro e v1 ⟨rfl,hc1⟩
         have HV1:=Lib.hid (below_next HV0.out hc1)
         have HZ1:=Lib.hid (below_next HZ0.out hc1)
         clear hc1
         go_wp2_with fail
         refine(CM.out _ HV1.out).mono ?_
         rintro e v2 ⟨rfl,hc2⟩
         have HV2:=Lib.hid (below_next HV1.out hc2)
         have HZ2:=Lib.hid (below_next HZ1.out hc2)
         clear hc2
         go_wp2_with fail
         refine(CL.out _ HV2.out).mono ?_
         rintro e v3 ⟨rfl,hc3⟩
         have HV3:=Lib.hid (below_next HV2.out hc3)
         have HZ3:=Lib.hid (below_next HZ2.out hc3)
         clear hc3
         go_wp2_with fail
         go_ret2
         exact⟨ret_ii E1.out.symm E2.out.symm,HFW.out.trans (HV3.out.mono HFW.out.size)⟩
        |true=>
         cases b5 with
         |false=>
          have hb:=HBAD.out (by rw [HINS.out];rfl)
          have E1:Hid (checkI (f+1) u=k):=Lib.hid (by rw [EI.out,hb])
          have E2:Hid (checkE (f+1) u=6):=Lib.hid (by rw [EE.out,hb])
          clear hb
          go_wp2_with fail
          refine hro.mono ?_
          rintro e w6 ⟨rfl,hb6⟩
          have HW:=Lib.hid (hb6.alloc hb6.size (.cells #[.int .i64 (h:Nat),.int .i64 (l1:Nat),.int .i64 (l2:Nat)] 97))
          have hR:=heap_alloc_new w6 (.cells #[.int .i64 (h:Nat),.int .i64 (l1:Nat),.int .i64 (l2:Nat)] 97)
          have HR:=Lib.hid hR
          have HWW:=Lib.hid (Below.refl (w6.alloc (.cells #[.int .i64 (h:Nat),.int .i64 (l1:Nat),.int .i64 (l2:Nat)] 97)).heap.size (w6.alloc (.cells #[.int .i64 (h:Nat),.int .i64 (l1:Nat),.int .i64 (l2:Nat)] 97)))
          clear hb6 hR
          go_wp2_with fail
          generalize w6.alloc (.cells #[.int .i64 (h:Nat),.int .i64 (l1:Nat),.int .i64 (l2:Nat)] 97)=W6 at *
          generalize w6.heap.size=R at *
          refine(CF.out _ HW.out).mono ?_
          rintro e v0 ⟨rfl,hc0⟩
          have HV0:=Lib.hid (below_next HW.out hc0)
          have HZ0:=Lib.hid (below_next HWW.out hc0)
          clear hc0
          go_wp2_with fail
          refine(CN.out _ HV0.out).mono ?_
          rintro e v1 ⟨rfl,hc1⟩
          have HV1:=Lib.hid (below_next HV0.out hc1)
          have HZ1:=Lib.hid (below_next HZ0.out hc1)
          clear hc1
          go_wp2_with fail
          refine(CM.out _ HV1.out).mono ?_
          rintro e v2 ⟨rfl,hc2⟩
          have HV2:=Lib.hid (below_next HV1.out hc2)
          have HZ2:=Lib.hid (below_next HZ1.out hc2)
          clear hc2
          go_wp2_with fail
          refine(CL.out _ HV2.out).mono ?_
          rintro e v3 ⟨rfl,hc3⟩
          have HV3:=Lib.hid (below_next HV2.out hc3)
          have HZ3:=Lib.hid (below_next HZ2.out hc3)
          clear hc3
          have hrr:=(HZ3.out.block R (lt_of_row HR.out)).trans HR.out
          have g0:v3.cell? ⟨R,0,none⟩=some (.int .i64 (h:Nat)):=by rw [cell_of_row _ _ _ _ _ _ hrr];rfl
          have g1:v3.cell? ⟨R,1,none⟩=some (.int .i64 (l1:Nat)):=by rw [cell_of_row _ _ _ _ _ _ hrr];rfl
          have g2:v3.cell? ⟨R,2,none⟩=some (.int .i64 (l2:Nat)):=by rw [cell_of_row _ _ _ _ _ _ hrr];rfl
          clear hrr
          go_wp2_with fail
          refine(CT.out _ HV3.out).mono ?_
          rintro e v4 ⟨rfl,hc4⟩
          have HV4:=Lib.hid (below_next HV3.out hc4)
          have HZ4:=Lib.hid (below_next HZ3.out hc4)
          clear hc4
          go_wp2_with fail
          go_ret2
          exact⟨ret_ii E1.out.symm E2.out.symm,HFW.out.trans (HV4.out.mono HFW.out.size)⟩
         |true=>
          have HNX:=Lib.hid (HGOOD.out (by rw [HINS.out];rfl))
          go_wp2_with fail
          refine hro.mono ?_
          rintro e w6 ⟨rfl,hb6⟩
          have HW:=Lib.hid (hb6.alloc hb6.size (.cells #[.int .i64 (h:Nat),.int .i64 (l1:Nat),.int .i64 (l2:Nat)] 97))
          have hR:=heap_alloc_new w6 (.cells #[.int .i64 (h:Nat),.int .i64 (l1:Nat),.int .i64 (l2:Nat)] 97)
          have HR:=Lib.hid hR
          have HWW:=Lib.hid (Below.refl (w6.alloc (.cells #[.int .i64 (h:Nat),.int .i64 (l1:Nat),.int .i64 (l2:Nat)] 97)).heap.size (w6.alloc (.cells #[.int .i64 (h:Nat),.int .i64 (l1:Nat),.int .i64 (l2:Nat)] 97)))
          clear hb6 hR
          go_wp2_with fail
          generalize w6.alloc (.cells #[.int .i64 (h:Nat),.int .i64 (l1:Nat),.int .i64 (l2:Nat)] 97)=W6 at *
          generalize w6.heap.size=R at *
          refine(CF.out _ HW.out).mono ?_
          rintro e v0 ⟨rfl,hc0⟩
          have HV0:=Lib.hid (below_next HW.out hc0)
          have HZ0:=Lib.hid (below_next HWW.out hc0)
          clear hc0
          go_wp2_with fail
          refine(CN.out _ HV0.out).mono ?_
          rintro e v1 ⟨rfl,hc1⟩
          have HV1:=Lib.hid (below_next HV0.out hc1)
          have HZ1:=Lib.hid (below_next HZ0.out hc1)
          clear hc1
          go_wp2_with fail
          refine(CM.out _ HV1.out).mono ?_
          rintro e v2 ⟨rfl,hc2⟩
          have HV2:=Lib.hid (below_next HV1.out hc2)
          have HZ2:=Lib.hid (below_next HZ1.out hc2)
          clear hc2
          go_wp2_with fail
          refine(CL.out _ HV2.out).mono ?_
          rintro e v3 ⟨rfl,hc3⟩
          have HV3:=Lib.hid (below_next HV2.out hc3)
          have HZ3:=Lib.hid (below_next HZ2.out hc3)
          clear hc3
          have hrr:=(HZ3.out.block R (lt_of_row HR.out)).trans HR.out
          have g0:v3.cell? ⟨R,0,none⟩=some (.int .i64 (h:Nat)):=by rw [cell_of_row _ _ _ _ _ _ hrr];rfl
          have g1:v3.cell? ⟨R,1,none⟩=some (.int .i64 (l1:Nat)):=by rw [cell_of_row _ _ _ _ _ _ hrr];rfl
          have g2:v3.cell? ⟨R,2,none⟩=some (.int .i64 (l2:Nat)):=by rw [cell_of_row _ _ _ _ _ _ hrr];rfl
          clear hrr
          go_wp2_with fail
          refine(CT.out _ HV3.out).mono ?_
          rintro e v4 ⟨rfl,hc4⟩
          have HV4:=Lib.hid (below_next HV3.out hc4)
          have HZ4:=Lib.hid (below_next HZ3.out hc4)
          clear hc4
          go_wp2_with fail
          go_roundw
          case rel=>exact⟨k+1,by omega,by go_num,HNX,hBw.trans (HV4.out.mono hBw.size)⟩
          case measure=>simp [intOf];omega
    ·have hb:badFrom u u.code 0=some k:=by rw [HK.out,HST.out,HINS.out];unfold opOk;rw [decide_eq_false hop];simp
     have E1:Hid (checkI (f+1) u=k):=Lib.hid (by rw [EI.out,hb])
     have E2:Hid (checkE (f+1) u=6):=Lib.hid (by rw [EE.out,hb])
     have hro:=rowOf_no u.code[k].op hop wr
     clear hb hop
     generalize u.code[k].op=op at *
     go_wp2_with fail
     refine hro.mono ?_
     rintro e w6 ⟨rfl,hb6⟩
     have HF:=Lib.hid (HFW.out.trans (hb6.mono HFW.out.size))
     go_wp2_with fail
     go_ret2
     exact⟨ret_ii E1.out.symm E2.out.symm,HF.out.alloc HF.out.size _⟩
   ·have E:Hid (badFrom u u.code 0=none):=Lib.hid (by rw [HK.out,List.drop_eq_nil_of_le (by omega)];rfl)
    have E1:Hid (checkI (f+1) u=0):=Lib.hid (by rw [EI.out,E.out])
    have E2:Hid (checkE (f+1) u=0):=Lib.hid (by rw [EE.out,E.out])
    have HF:Hid (Below w.heap.size w wr):=Lib.hid (by rw [HBE.out];exact HB5.out.trans (hBw.mono hsz))
    go_wp2_with fail
    go_ret2
    exact⟨ret_ii E1.out.symm E2.out.symm,HF.out⟩
theorem wi_iff {n a b:Int} (h:wi n a b=true):a<=n/\n<=b:=by
 unfold wi at h;rw [Bool.and_eq_true,decide_eq_true_eq,decide_eq_true_eq]at h;exact h
theorem rowT_facts: ∀k,(h:k<41)->(hasB (rowT[k]'h).1.toNat 16=true->k=12)/\(hasB (rowT[k]'h).1.toNat 8=true->k=13∨k=14∨k=15) /\
  (hasB (rowT[k]'h).1.toNat 4=true->k=4∨k=5∨k=9∨k=15∨k=16∨k=17∨k=18∨k=19∨k=20∨k=21∨k=24∨k=31∨k=32∨k=33)/\(rowT[k]'h).2.2<=255:=by decide
theorem rowAt_facts {op:Int} (h:1<=op/\op<=40):(hasB (rowAt op).1.toNat 16=true->op=12)/\(hasB (rowAt op).1.toNat 8=true->op=13∨op=14∨op=15) /\
  (hasB (rowAt op).1.toNat 4=true->op=4∨op=5∨op=9∨op=15∨op=16∨op=17∨op=18∨op=19∨op=20∨op=21∨op=24∨op=31∨op=32∨op=33)/\(rowAt op).2.2<=255:=by
 obtain⟨k,rfl⟩: ∃k:Nat,op=(k:Int):=⟨op.toNat,by omega⟩
 have hk:k<41:=by omega
 have hra:rowAt (k:Int)=rowT[k]'hk:=by unfold rowAt;rw [Int.toNat_natCast,List.getElem?_eq_getElem (by exact hk)];rfl
 rw [hra]
 obtain⟨a,b,c,d⟩:=rowT_facts k hk
 exact⟨fun h=>by have:=a h;omega,fun h=>by have:=b h;omega,fun h=>by have:=c h;omega,d⟩
structure TabOk (u:RUnit):Prop where
 mdl:u.mdl.size<=32
 vsn0:1<=u.vsn
 vsn1:u.vsn<=2147483647
 code0:1<=u.code.length
 code1:u.code.length<=524288
 lits:u.lits.length<=65535
 funcs:u.funcs.length<=200
 funs:u.funs.length<=1000
 func: ∀g∈u.funcs,g.name.size<=32/\0<=g.arity/\g.arity<=16/\0<=g.entry/\g.entry<=524288
 fn: ∀g∈u.funs,0<=g.arity/\g.arity<=16/\0<=g.free/\g.free<=200/\0<=g.entry/\g.entry<=524288
theorem nameB_size {s:ByteArray} (h:nameB s=true):s.size<=32:=by
 unfold nameB at h
 rw [Bool.and_eq_true,Bool.and_eq_true,decide_eq_true_eq,decide_eq_true_eq]at h
 exact h.1.2
theorem tab_ok {f:Nat} {u:RUnit} (h:tablesB f u=true):TabOk u:=by
 unfold tablesB tabA at h
 simp only [Bool.and_eq_true,decide_eq_true_eq]at h
 obtain⟨⟨h1,h2,h3,h4,h5,h6,h7,h8⟩,_,hf,hg⟩:=h
 refine⟨nameB_size h1,h2,h3,by omega,by omega,h6,h7,h8,fun g hm=>?_,fun g hm=>?_⟩
 ·obtain⟨k,hk,rfl⟩:=List.getElem_of_mem hm
  have:=(of_decide_eq_true hf k hk).1
  unfold fnOk at this
  rw [Bool.and_eq_true,Bool.and_eq_true]at this
  have a:=wi_iff this.2.1;have b:=wi_iff this.2.2
  exact⟨nameB_size this.1,by omega,by omega,by omega,by omega⟩
 ·have:=List.all_eq_true.1 hg g hm
  unfold funB at this
  rw [Bool.and_eq_true,Bool.and_eq_true]at this
  have a:=wi_iff this.1;have b:=wi_iff this.2.1;have c:=wi_iff this.2.2
  omega
theorem bad_none {u:RUnit}: ∀(l:List RIns) (i:Nat),badFrom u l i=none-> ∀k (h:k<l.length),insB u (i+k) l[k]=true
 |[],_,_,k,h=>absurd h (Nat.not_lt_zero _)
 |x::l,i,hb,k,h=>by
  unfold badFrom at hb
  split at hb
  ·rename_i e
   cases k with
   |zero=>exact e
   |succ k=>
    have:=bad_none l (i+1) hb k (by simpa using h)
    rw [show i+(k+1)=i+1+k by omega]
    exact this
  ·cases hb
theorem check_ok {f:Nat} {u:RUnit} (h:checkE f u=0):TabOk u/\tablesB f u=true/\ ∀k (hk:k<u.code.length),insB u k u.code[k]=true:=by
 unfold checkE at h
 split at h
 ·rename_i ht
  cases hb:badFrom u u.code 0 with
  |some i=>rw [hb]at h;exact absurd (show(6:Int)=0 from h) (by decide)
  |none=>
   refine⟨tab_ok ht,ht,fun k hk=>?_⟩
   have:=bad_none u.code 0 hb k hk
   rwa [Nat.zero_add]at this
 ·exact absurd h (by decide)
structure VIns (u:RUnit) (i:Nat) (x:RIns):Prop where
 op:1<=x.op/\x.op<=40
 jump:JumpOk u.code.length i x
 opd: ∀s,OpdOk u s x
 srcs: ∀s,x.op=1∨x.op=5∨x.op=6∨x.op=7∨x.op=9∨x.op=10->0<x.src.length/\ArgOk u s (src0 x)
 n5:x.op=5->0<=x.n/\x.n<=254
 n9:x.op=9->0<=x.n/\x.n<=255
 n24:x.op=24->1<=x.n/\x.n<=8192
 t28:x.op=28->0<=x.to/\x.to<u.code.length
 dstx:x.dst.kind=1->0<=x.dst.n/\x.dst.n<=255
 dsty:x.dst.kind=2->0<=x.dst.n/\x.dst.n<=8191
 dst:x.dst.kind=0∨x.dst.kind=1∨x.dst.kind=2
 dst0:x.dst.kind=0↔hasB (rowAt x.op).1.toNat 1=false
 live:0<=x.live/\x.live<=256
 srcLen:x.src.length<=255
 casesLen:x.cases.length<=1000
 segsLen:x.segs.length<=60
theorem opdB_ok {u:RUnit} {a:RArg} (hl:u.lits.length<=65535) (h:opdB u.lits.length a=true) (s:VSt):ArgOk u s a:=by
 unfold opdB at h
 split at h
 ·have:=wi_iff h;exact⟨fun _=>this,fun e=>by omega,fun e=>by omega,by unfold I64;omega⟩
 ·split at h
  ·have:=wi_iff h;exact⟨fun e=>by omega,fun _=>this,fun _ e=>by omega,by unfold I64;omega⟩
  ·split at h
   ·have:=wi_iff h;exact⟨fun e=>by omega,fun e=>by omega,fun _ _=>by omega,by unfold I64;omega⟩
   ·cases h
theorem rowT_v: ∀k:Nat,(h:k<41)->0<k->(hasB (rowT[k]'h).1.toNat 64=true↔toB (k:Int)=true∨k=28)/\(hasB (rowT[k]'h).1.toNat 128=true↔limitedV (k:Int)=true) /\
  (k=1∨k=5∨k=6∨k=7∨k=9∨k=10->0<(rowT[k]'h).2.1):=by decide
theorem rowAt_v {op:Int} (h:1<=op/\op<=40):(hasB (rowAt op).1.toNat 64=true↔toB op=true∨op=28)/\(hasB (rowAt op).1.toNat 128=true↔limitedV op=true)/\(op=1∨op=5∨op=6∨op=7∨op=9∨op=10->0<(rowAt op).2.1):=by
 obtain⟨k,rfl⟩: ∃k:Nat,op=(k:Int):=⟨op.toNat,by omega⟩
 have hk:k<41:=by omega
 have hra:rowAt (k:Int)=rowT[k]'hk:=by unfold rowAt;rw [Int.toNat_natCast,List.getElem?_eq_getElem (by exact hk)];rfl
 rw [hra]
 obtain⟨a,b,c⟩:=rowT_v k hk (by omega)
 exact⟨a.trans ⟨fun h=>h.imp id fun h=>by omega,fun h=>h.imp id fun h=>by omega⟩,b,fun h=>c (by omega)⟩
theorem numberB_v {nf:Nat} {funs:List RFun} {x:RIns} (h:numberB nf funs x=true):(x.op=5->0<=x.n/\x.n<=254)/\(x.op=9->0<=x.n/\x.n<=255)/\(x.op=16∨x.op=17->0<=x.n/\x.n<nf) /\
  (x.op=15∨x.op=18∨x.op=19∨x.op=20∨x.op=21->0<=x.n/\x.n<=16)/\(x.op=24->1<=x.n/\x.n<=8192):=by
 unfold numberB at h
 split at h
 ·omega
 ·split at h
  ·have:=wi_iff h;omega
  ·split at h
   ·have:=wi_iff h;omega
   ·split at h
    ·have:=wi_iff h;omega
    ·split at h
     ·have:=wi_iff h;omega
     ·split at h
      ·have:=wi_iff h;omega
      ·omega
theorem vins_ok {u:RUnit} {i:Nat} {x:RIns} (ht:TabOk u) (h:insB u i x=true):VIns u i x:=by
 unfold insB at h
 simp only [Bool.and_eq_true]at h
 obtain⟨h0,h1,h2,h3,h4,h5⟩:=h
 have hop:1<=x.op/\x.op<=40:=by unfold opOk at h0;exact of_decide_eq_true h0
 obtain⟨r16,r8,r4,rhi⟩:=rowAt_facts hop
 obtain⟨v64,v128,vlo⟩:=rowAt_v hop
 have hlo:((rowAt x.op).2.1.toNat:Int)<=x.src.length->x.op=1∨x.op=5∨x.op=6∨x.op=7∨x.op=9∨x.op=10->0<x.src.length:=fun a b=>by have:=vlo b;omega
 generalize hh:(rowAt x.op).1.toNat=hb at *
 unfold fieldsB at h1
 simp only [Bool.and_eq_true]at h1
 obtain⟨f1,f2,f3,f4,f5,f6,f7,f8,f9,f10⟩:=h1
 have w3:=wi_iff f3;have w4:=wi_iff f4
 have hlit:=ht.lits;have hcode:=ht.code1
 unfold listsB at h4
 simp only [Bool.and_eq_true,decide_eq_true_eq]at h4
 obtain⟨⟨g1,g2⟩,g3,g4⟩:=h4
 obtain⟨n5,n9,n16,n15,n24⟩:=numberB_v h2
 have hargs:0<=argsV u x/\argsV u x<=1000:=by
  unfold argsV
  split
  ·rename_i e;have:=n15 e;omega
  ·split
   ·rename_i e
    have:=n16 e
    have hlt:x.n.toNat<u.funcs.length:=by omega
    rw [List.getElem?_eq_getElem hlt]
    have:=ht.func _ (List.getElem_mem hlt)
    show 0<=(u.funcs[x.n.toNat]).arity/\(u.funcs[x.n.toNat]).arity<=1000
    omega
   ·split<;>omega
 have hsrc: ∀s,∀a∈x.src,ArgOk u s a:=fun s a ha=>opdB_ok hlit (List.all_eq_true.1 f2 a ha) s
 have hdst:(x.dst.kind=1->0<=x.dst.n/\x.dst.n<=255)/\(x.dst.kind=2->0<=x.dst.n/\x.dst.n<=8191)/\(x.dst.kind=0∨x.dst.kind=1∨x.dst.kind=2)/\(x.dst.kind=0↔hasB hb 1=false):=by
  unfold dstB at f1
  split at f1
  ·rename_i e
   rw [Bool.and_eq_true]at f1
   obtain⟨f1,f1'⟩:=f1
   have h3:x.dst.kind≠3:=by simpa using f1
   unfold opdB at f1'
   split at f1'
   ·have:=wi_iff f1';exact⟨fun _=>this,fun _=>by omega,by omega,⟨fun _=>by omega,fun h=>by rw [e]at h;cases h⟩⟩
   ·split at f1'
    ·have:=wi_iff f1';exact⟨fun _=>by omega,fun _=>this,by omega,⟨fun _=>by omega,fun h=>by rw [e]at h;cases h⟩⟩
    ·simp [h3]at f1'
  ·rename_i e
   rw [Bool.and_eq_true]at f1
   have:=of_decide_eq_true f1.1
   exact⟨by omega,by omega,by omega,⟨fun _=>by simpa using e,fun _=>this⟩⟩
 have hsel:x.cases≠ []->x.op=12:=fun hne=>r16 (by
  cases e:hasB hb 16 with
  |true=>rfl
  |false=>
   rw [e,Bool.false_or]at f9
   exact absurd (List.length_eq_zero_iff.1 (eq_of_beq f9)) hne)
 have hjump:JumpOk u.code.length i x/\(x.op=28->0<=x.to/\x.to<u.code.length):=by
  unfold targetsB at h5
  by_cases ho:x.op=39∨x.op=40
  ·rw [if_pos ho,Bool.and_eq_true]at h5
   have hw:=wi_iff h5.1
   refine⟨⟨fun c hc=>?_,hsel,fun _=>by omega,fun _=>by omega,fun h=>?_⟩,fun _=>by omega⟩
   ·have:=hsel (fun e=>by rw [e]at hc;cases hc);omega
   ·rcases ho with e|e<;>rw [e]at h<;>exact absurd h (by decide)
  ·rw [if_neg ho,Bool.and_eq_true]at h5
   have hto:hasB hb 64=true->(i:Int)<x.to/\x.to<u.code.length:=fun e=>by
    have:=h5.2
    rw [e]at this
    have:=wi_iff (show wi x.to ((i:Int)+1) ((u.code.length:Int)-1)=true from this)
    omega
   refine⟨⟨fun c hc=>?_,hsel,fun h=>?_,fun h _ _=>(hto (v64.2 (.inl h))).1,fun h h28=>?_⟩,fun e=>?_⟩
   ·have:=wi_iff (List.all_eq_true.1 h5.1 c hc);omega
   ·have:=hto (v64.2 (.inl h));omega
   ·cases e:hasB hb 64 with
    |false=>rw [e,Bool.false_or]at f7;exact eq_of_beq f7
    |true=>
     rcases v64.1 e with e'|e'
     ·rw [h]at e';cases e'
     ·exact absurd e' h28
   ·have:=hto (v64.2 (.inr e));omega
 refine⟨hop,hjump.1,fun s=>⟨hsrc s,fun g hg=>?_,fun g hg hz=>?_,n16,hargs,by omega,by omega⟩,fun s e=>?_,n5,n9,n24,hjump.2,hdst.1,hdst.2.1,hdst.2.2.1,by rw [hh];exact hdst.2.2.2,by omega,by omega,?_,by omega⟩
 ·have:=List.all_eq_true.1 g4 g hg
  unfold segB at this
  simp only [Bool.and_eq_true]at this
  exact opdB_ok hlit this.2.1 s
 ·have:=List.all_eq_true.1 g4 g hg
  unfold segB at this
  simp only [Bool.and_eq_true,Bool.or_eq_true,decide_eq_true_eq]at this
  rcases this.2.2.1 with h|h
  ·exact absurd h hz
  ·exact opdB_ok hlit h s
 ·have hl:=hlo w3.1 e
  refine⟨hl,?_⟩
  have:src0 x=x.src[0]:=by
   unfold src0
   rw [List.headD_eq_head?_getD,List.head?_eq_getElem?,List.getElem?_eq_getElem hl];rfl
  rw [this]
  exact hsrc s _ (List.getElem_mem hl)
 ·by_cases e:x.op=12
  ·rw [e]at g1
   have:=wi_iff (show wi x.cases.length 1 1000=true from by simpa using g1)
   omega
  ·have:x.cases= []:=Classical.byContradiction fun hne=>e (hsel hne)
   rw [this];exact Nat.zero_le _
structure SInv (n i:Nat) (s:VSt):Prop where
 fr: -1<=s.frame/\s.frame<=8192
 y:s.y.length=s.frame.toNat
 x:s.x.length<=256
 tx:trimT s.x=s.x
 t:s.tries.length<=i
 tr: ∀a∈s.tries,0<=a/\a<n
theorem SInv.mono {n i j:Nat} {s:VSt} (h:SInv n i s) (hij:i<=j):SInv n j s:=⟨h.fr,h.y,h.x,h.tx,Nat.le_trans h.t hij,h.tr⟩
theorem SInv.ok {n i:Nat} {s:VSt} (h:SInv n i s) (hi:i<=1000000):StOk s:=
 ⟨⟨Nat.le_trans h.x (by decide),by have:=h.y;have:=h.fr;omega,Nat.le_trans h.t hi⟩,fun _=>h.y,h.fr⟩
theorem trim_len (l:List Int):(trimT l).length<=l.length:=by unfold trimT;rw [List.length_take];omega
theorem trim_trim (l:List Int):trimT (trimT l)=trimT l:=trim_ext (getD_trim l)
theorem SInv.setX {n i:Nat} {s:VSt} (h:SInv n i s) {l:List Int} (hl:l.length<=256) (m:Bool) (r:Int):SInv n i {s with x:=trimT l,mt:=m,recv:=r}:=
 ⟨h.fr,h.y,Nat.le_trans (trim_len l) hl,trim_trim l,h.t,h.tr⟩
theorem cut_inv {n i:Nat} {s:VSt} (h:SInv n i s) (x:RIns):SInv n i (cutV s x):=by
 unfold cutV
 split
 ·exact h.setX (Nat.le_trans (List.length_take_le' _ _) h.x) _ _
 ·exact h
theorem put_inv {n i:Nat} {s:VSt} (h:SInv n i s) (a:RArg) (t:Int) (h1:a.kind=1->0<=a.n/\a.n<=255):SInv n i (putV s a t):=by
 unfold putV
 split
 ·rename_i k
  refine h.setX ?_ _ _
  unfold setN
  rw [List.length_set,List.length_append,List.length_replicate]
  have:=h1 k;have:=h.x
  omega
 ·split
  ·exact⟨h.fr,by show(s.y.set _ _).length=_;rw [List.length_set];exact h.y,h.x,h.tx,h.t,h.tr⟩
  ·exact h
theorem trim_one:trimT [1]= [1]:=by decide
theorem alone_inv {n i:Nat} {s:VSt} (h:SInv n i s):SInv n i (aloneV s):=⟨h.fr,h.y,by show([1]:List Int).length<=256;decide,trim_one,h.t,h.tr⟩
theorem peek_inv {n i:Nat} {s:VSt} (h:SInv n i s):SInv n i (peekV s):=⟨h.fr,by show(List.replicate s.y.length 1).length=_;rw [List.length_replicate];exact h.y,(alone_inv h).x,trim_one,h.t,h.tr⟩
theorem next_inv {u:RUnit} {i:Nat} {s:VSt} {x:RIns} (hs:SInv u.code.length i s) (hx:VIns u i x) (hi:i<u.code.length):SInv u.code.length (i+1) (nextV u i s x):=by
 have hc:=cut_inv hs x
 have hn:SInv u.code.length i (if x.dst.kind≠0 then putV (cutV s x) x.dst (resultV u s x)else cutV s x):=by
  split
  ·exact put_inv hc _ _ hx.dstx
  ·exact hc
 have hm:=fun{t:VSt} (h:SInv u.code.length i t)=>h.mono (Nat.le_succ i)
 unfold nextV
 simp only
 generalize(if x.dst.kind≠0 then putV (cutV s x) x.dst (resultV u s x)else cutV s x)=N at *
 generalize cutV s x=C at *
 split
 ·rename_i h9;exact hm (put_inv hc _ _ ((hx.srcs s (by omega)).2.x))
 ·split
  ·rename_i h9;exact hm (put_inv hc _ _ ((hx.srcs s (by omega)).2.x))
  ·split
   ·exact hm (alone_inv hc)
   ·split
    ·exact hm (peek_inv hc)
    ·split
     ·rename_i h24
      have:=hx.n24 h24
      exact hm ⟨by show -1<=x.n/\x.n<=8192;omega,by show(anysV x.n).length=x.n.toNat;unfold anysV;rw [List.length_replicate],hn.x,hn.tx,hn.t,hn.tr⟩
     ·split
      ·exact hm ⟨by show(-1:Int)<= -1/\(-1:Int)<=8192;omega,rfl,hn.x,hn.tx,hn.t,hn.tr⟩
      ·split
       ·rename_i h28
        refine⟨hn.fr,hn.y,hn.x,hn.tx,?_,?_⟩
        ·show(C.tries++ [x.to]).length<=i+1
         rw [List.length_append];have:=hc.t;simp;omega
        ·intro a ha
         rcases List.mem_append.1 ha with ha|ha
         ·exact hc.tr a ha
         ·rw [List.mem_singleton.1 ha];exact hx.t28 h28
       ·split
        ·refine⟨hn.fr,hn.y,hn.x,hn.tx,?_,fun a ha=>hc.tr a (List.mem_of_mem_take ha)⟩
         show(C.tries.take _).length<=i+1
         have:=hc.t
         rw [List.length_take];omega
        ·split
         ·exact hm ⟨hn.fr,hn.y,hn.x,hn.tx,hn.t,hn.tr⟩
         ·split
          ·exact hm ⟨hn.fr,hn.y,hn.x,hn.tx,hn.t,hn.tr⟩
          ·split
           ·exact hm ⟨hn.fr,hn.y,hn.x,hn.tx,hn.t,hn.tr⟩
           ·exact hm hn
theorem to_inv {n i:Nat} {s:VSt} (h:SInv n i s) (x:RIns):SInv n i (toV s x):=by
 unfold toV
 split
 ·have hp:=peek_inv (cut_inv h x)
  exact⟨hp.fr,hp.y,Nat.zero_le _,rfl,hp.t,hp.tr⟩
 ·split
  ·have hp:=cut_inv h x
   exact⟨hp.fr,hp.y,hp.x,hp.tx,hp.t,hp.tr⟩
  ·exact cut_inv h x
theorem trim_two:trimT [1,1]= [1,1]:=by decide
theorem hand_inv {n i:Nat} {s:VSt} (h:SInv n i s):SInv n i (handV s):=
 ⟨h.fr,h.y,by show([1,1]:List Int).length<=256;decide,trim_two,by show(s.tries.take _).length<=i;have:=h.t;rw [List.length_take];omega,fun a ha=>h.tr a (List.mem_of_mem_take ha)⟩
theorem getD_anys {n j:Nat} (h:j<n):(List.replicate n (1:Int)).getD j 0=1:=by
 rw [List.getD_eq_getElem?_getD,List.getElem?_replicate,if_pos h];rfl
theorem trim_anys (n:Nat):trimT (List.replicate n (1:Int))=List.replicate n 1:=by
 unfold trimT
 cases n with
 |zero=>rfl
 |succ n=>
  have:trimN (List.replicate (n+1) (1:Int)) (List.replicate (n+1) (1:Int)).length=n+1:=by
   rw [List.length_replicate,trimN,if_neg (by rw [getD_anys (Nat.lt_succ_self n)];decide)]
  rw [this,List.take_of_length_le (by simp)]
theorem entry_inv {n:Nat} {a:Int} (h:a<=256):SInv n 0 (entryV a):=
 ⟨by show(-1:Int)<= -1/\(-1:Int)<=8192;omega,rfl,by show(anysV a).length<=256;unfold anysV;rw [List.length_replicate];omega,trim_anys _,Nat.le_refl _,fun _ h=>by cases h⟩
theorem join_inv {n i:Nat} {a b:VSt} (ha:SInv n i a) (hb:SInv n i b) (hf:a.frame=b.frame):SInv n i (joinS a b):=by
 have hy:(joinL a.y b.y).length=a.frame.toNat:=by rw [joinL_len,ha.y,hb.y,<-hf];omega
 refine⟨ha.fr,hy,?_,trim_trim _,ha.t,ha.tr⟩
 show(trimT (joinL a.x b.x)).length<=256
 have h1:=trim_len (joinL a.x b.x)
 have h2:=joinL_len a.x b.x
 have:=ha.x
 omega
structure MInv (n i N:Nat) (m:VM):Prop where
 st:SInv n i m.st
 all: ∀t∈m.all,SInv n i t
 ne:m.all≠ []
 fr:m.wrong=0-> ∀t∈m.all,t.frame=m.st.frame
 wr:ErrV m.wrong
 num:m.all.length<=N
theorem MInv.mono {n i j N N':Nat} {m:VM} (h:MInv n i N m) (hij:i<=j) (hN:N<=N'):MInv n j N' m:=⟨h.st.mono hij,fun t ht=>(h.all t ht).mono hij,h.ne,h.fr,h.wr,Nat.le_trans h.num hN⟩
theorem worst_err (s:VSt): ∀(l:List VSt) (w:Int),ErrV w->ErrV (worstV s l w)
 |[],_,h=>h
 |t::l,w,h=>worst_err s l _ (worse_err s t h)
theorem worst_zero {s:VSt} {m:VM} (h:worstV s m.all m.wrong=0):m.wrong=0/\ ∀t∈m.all,clashV s t=0:=by
 obtain⟨h1,h2⟩:=worst_le (s:=s) m.all m.wrong
 refine⟨?_,fun t ht=>(h2 t ht).elim id fun h3=>absurd h h3.1⟩
 by_cases c:m.wrong=0
 ·exact c
 ·exact absurd h (h1 c).1
theorem MInv.frame {n i N:Nat} {m:VM} {s:VSt} (h:MInv n i N m) (hw:worstV s m.all m.wrong=0):m.st.frame=s.frame:=by
 obtain⟨h1,h2⟩:=worst_zero hw
 obtain⟨t,l,e⟩:=List.exists_cons_of_ne_nil h.ne
 have ht:t∈m.all:=by rw [e];exact List.mem_cons_self ..
 have h3:=(clash_zero.1 (h2 t ht)).1
 rw [h3,h.fr h1 t ht]
theorem add_inv {n i N:Nat} {mo:Option VM} {s:VSt} {m':VM} (h: ∀m,mo=some m->MInv n i N m) (hs:SInv n i s) (he:addV mo s=some m'):MInv n i (N+1) m':=by
 cases mo with
 |none=>
  have he:some (VM.mk s [s] 0)=some m':=he
  injection he with he
  subst he
  exact⟨hs,fun t ht=>by rw [List.mem_singleton.1 ht];exact hs,by simp,fun _ t ht=>by rw [List.mem_singleton.1 ht],.inl rfl,by simp⟩
 |some m=>
  have hm:=h m rfl
  have he:some (VM.mk (if worstV s m.all m.wrong=0 then joinS m.st s else m.st) (if knownV s m.all=true then m.all else m.all++ [s]) (worstV s m.all m.wrong))=some m':=he
  injection he with he
  subst he
  have hall: ∀t∈(if knownV s m.all=true then m.all else m.all++ [s]),t∈m.all∨t=s:=fun t ht=>by
   split at ht
   ·exact .inl ht
   ·rcases List.mem_append.1 ht with ht|ht
    ·exact .inl ht
    ·exact .inr (List.mem_singleton.1 ht)
  refine⟨?_,fun t ht=>(hall t ht).elim (hm.all t) fun e=>by rw [e];exact hs,?_,fun hw t ht=>?_,worst_err _ _ _ hm.wr,?_⟩
  ·show SInv n i (if worstV s m.all m.wrong=0 then joinS m.st s else m.st)
   split
   ·rename_i hw;exact join_inv hm.st hs (hm.frame hw)
   ·exact hm.st
  ·show(if knownV s m.all=true then m.all else m.all++ [s])≠ []
   split
   ·exact hm.ne
   ·simp
  ·have hw:worstV s m.all m.wrong=0:=hw
   show t.frame=(if worstV s m.all m.wrong=0 then joinS m.st s else m.st).frame
   rw [if_pos hw]
   show t.frame=m.st.frame
   rcases hall t ht with h1|h1
   ·exact hm.fr (worst_zero hw).1 t h1
   ·rw [h1,hm.frame hw]
  ·show(if knownV s m.all=true then m.all else m.all++ [s]).length<=N+1
   have:=hm.num
   split
   ·omega
   ·simp;omega
theorem firstE_zero {s:VSt}: ∀{l:List RArg},firstE s l=0-> ∀a∈l,kindE s a=0
 |[],_,a,h=>by cases h
 |b::l,h,a,ha=>by
  rw [firstE]at h
  by_cases c:kindE s b=0
  ·rw [if_neg (by simp [c])]at h
   rcases List.mem_cons.1 ha with rfl|ha
   ·exact c
   ·exact firstE_zero h a ha
  ·rw [if_pos c]at h;exact absurd h c
theorem eff_ok {u:RUnit} {i:Nat} {s:VSt} {x:RIns} (hs:SInv u.code.length i s) (hx:VIns u i x) (hc:checksV u i s x=0):EffOk u s x:=by
 have h1:operandsV u s x=0:=firstN_zero hc _ (by simp)
 have h2:triesV i s x=0:=checks_tries hc
 unfold operandsV at h1
 by_cases c:firstE s (readsV u x)=0
 ·rw [if_neg (by simp [c])]at h1
  have hd: ¬(x.dst.kind=2/\s.frame<=x.dst.n):=fun h=>by rw [if_pos h]at h1;exact absurd h1 (by decide)
  have hk:=firstE_zero c
  refine⟨fun e=>hx.srcs s (by omega),fun e=>?_,Nat.le_trans hx.srcLen (by decide),hx.dstx,fun e=>?_,hx.live,hx.n9,hx.n24,fun e hn=>?_⟩
  ·obtain⟨a,b⟩:=hx.srcs s (by omega)
   refine⟨a,b.x,fun e2=>?_⟩
   have hm:src0 x∈readsV u x:=by
    refine List.mem_append_left _ ?_
    unfold src0
    rw [List.headD_eq_head?_getD,List.head?_eq_getElem?,List.getElem?_eq_getElem a]
    exact List.getElem_mem a
   have h3:=hk _ hm
   unfold kindE at h3
   rw [if_neg (by omega),if_pos e2]at h3
   have h4: ¬s.frame<=(src0 x).n:=fun h=>by rw [if_pos h]at h3;exact absurd h3 (by decide)
   have:=b.y e2;have:=hs.y
   omega
  ·have:=hx.dsty e;have:=hs.y
   have: ¬s.frame<=x.dst.n:=fun h=>hd ⟨e,h⟩
   omega
  ·unfold triesV at h2
   rw [hn,if_pos (show([]:List Int).length=0 from rfl),if_pos e]at h2
   exact absurd h2 (by decide)
 ·rw [if_pos c]at h1;exact absurd h1 c
def AInv (n i N:Nat) (M:Nat->Option VM):Prop:= ∀j m,M j=some m->MInv n i N m
theorem AInv.mono {n i j N N':Nat} {M:Nat->Option VM} (h:AInv n i N M) (hij:i<=j) (hN:N<=N'):AInv n j N' M:=fun k m e=>(h k m e).mono hij hN
theorem putM_inv {n i N:Nat} {M:Nat->Option VM} (h:AInv n i N M) {p:Nat × VSt} (hs:SInv n i p.2):AInv n i (N+1) (putM M p):=by
 intro j m e
 unfold putM at e
 split at e
 ·exact add_inv (fun m' e'=>h j m' e') hs e
 ·exact(h j m e).mono (Nat.le_refl _) (Nat.le_succ _)
theorem AInv.nil (n i N:Nat):AInv n i N (fun _=>none):=fun _ _ e=>by cases e
structure VEnv (w0 w:World) (E U mb:Nat) (at':Int) (u:RUnit) (lo fo go co:Option Addr) (lc fc gc cc mc:Nat):Prop where
 ex:w.heap[E]?=some (.cells #[.pointer (some ⟨U,0,none⟩),.slice (some ⟨mb,0,none⟩) u.code.length mc,.int .i64 at'] 89 (0,0))
 bx:UBox w0 U u lo fo go co lc fc gc cc
 up:UP w0 u lo fo go co
 bl:Below w0.heap.size w0 w
 le:w0.heap.size<=mb
section
variable {w0 w w':World} {E U mb:Nat} {at':Int} {u:RUnit} {lo fo go co:Option Addr} {lc fc gc cc mc:Nat}
theorem VEnv.cx (h:VEnv w0 w E U mb at' u lo fo go co lc fc gc cc mc):VCx w E U mb at' u lo fo go co lc fc gc cc mc:=⟨h.ex,h.bx.below h.bl,h.up.below h.bl⟩
theorem VEnv.below (h:VEnv w0 w E U mb at' u lo fo go co lc fc gc cc mc) (hb:Below w.heap.size w w'):VEnv w0 w' E U mb at' u lo fo go co lc fc gc cc mc:=
 ⟨(hb.block E (lt_of_row h.ex)).trans h.ex,h.bx,h.up,h.bl.trans (hb.mono h.bl.size),h.le⟩
theorem VEnv.add (h:VEnv w0 w E U mb at' u lo fo go co lc fc gc cc mc) (k:KeepT w w') (b:Below mb w w'):VEnv w0 w' E U mb at' u lo fo go co lc fc gc cc mc:=
 ⟨k.2 E _ _ _ h.ex (by decide) (by decide),h.bx,h.up,h.bl.trans (b.mono h.le),h.le⟩
end
def AddK (mb:Nat) (w w':World):Prop:=KeepT w w'/\Below mb w w'
theorem AddK.refl (mb:Nat) (w:World):AddK mb w w:=⟨.refl _,Below.refl _ _⟩
theorem AddK.trans {mb:Nat} {a b c:World} (h:AddK mb a b) (k:AddK mb b c):AddK mb a c:=⟨h.1.trans k.1,h.2.trans k.2⟩
theorem AddK.below {mb:Nat} {w w':World} (hm:mb<=w.heap.size) (h:Below w.heap.size w w'):AddK mb w w':=⟨.below h,h.mono hm⟩
theorem MeetAt.below {w w':World} {mb len:Nat} {M:Nat->Option VM} {cs:Array Value} {g:Nat->Nat} (h:MeetAt w mb len M cs g) (hb:Below w.heap.size w w'):MeetAt w' mb len M cs g:=
 ⟨(hb.block mb (lt_of_row h.row)).trans h.row,h.size,h.inj,fun k hk=>by
  obtain⟨pv,av,wv,f0,f1,f2,h1⟩:=h.one k hk
  exact⟨pv,av,wv,f0,f1,f2,h1.stay (.below hb) fun hn=>hb.block _ (h.lt hk hn).2⟩⟩
theorem MeetAt.mb {w:World} {mb len:Nat} {M:Nat->Option VM} {cs:Array Value} {g:Nat->Nat} (h:MeetAt w mb len M cs g):mb<w.heap.size:=lt_of_row h.row
theorem addOk_of {n i N k:Nat} {M:Nat->Option VM} {s:VSt} (h:AInv n i N M) (hs:SInv n i s) (hi:i<=1000000) (hN:N<=1000000000000):AddOk (M k) s:=
 ⟨fun m e=>((h k m e).st.ok hi).len,fun m e t ht=>(((h k m e).all t ht).ok hi).len,fun m e=>Nat.le_trans (h k m e).num hN,fun m e hw=>by rw [(h k m e).st.y,hs.y,(h k m e).frame hw],fun m e=>(h k m e).wr⟩
def MeetI (w:World) (mb n i N:Nat) (M:Nat->Option VM):Prop:=(∃cs g,MeetAt w mb n M cs g)/\AInv n i N M
theorem MeetI.below {w w':World} {mb n i N:Nat} {M:Nat->Option VM} (h:MeetI w mb n i N M) (hb:Below w.heap.size w w'):MeetI w' mb n i N M:=
 ⟨h.1.elim fun cs h=>h.elim fun g h=>⟨cs,g,h.below hb⟩,h.2⟩
theorem MeetI.mb {w:World} {mb n i N:Nat} {M:Nat->Option VM} (h:MeetI w mb n i N M):mb<w.heap.size:=by
 obtain⟨⟨cs,g,h⟩,-⟩:=h;exact h.mb
theorem MeetI.mono {w:World} {mb n i j N N':Nat} {M:Nat->Option VM} (h:MeetI w mb n i N M) (hij:i<=j) (hN:N<=N'):MeetI w mb n j N' M:=⟨h.1,h.2.mono hij hN⟩
theorem vaddI_any (mb n i N k q:Nat) (M:Nat->Option VM) (s:VSt) (w:World) (h:MeetI w mb n i N M) (hk:k<n) (hs:StAt w q s) (hS:SInv n i s) (hi:i<=1000000) (hN:N<=1000000000000):
  Calls Tryz.prog 53 #[.pointer (some ⟨mb,k*3,none⟩),.pointer (some ⟨q,0,none⟩)] w fun e w'=>e= .returned (.tuple #[])/\MeetI w' mb n i (N+1) (putM M (k,s))/\AddK mb w w':=by
 obtain⟨⟨cs,g,hm⟩,hA⟩:=h
 refine(vadd_any mb n k q M s cs g w hm hk hs (hS.ok hi).len (addOk_of hA hS hi hN)).mono ?_
 rintro e w' ⟨rfl,h1,h2,h3⟩
 exact⟨rfl,⟨h1,putM_inv hA hS⟩,h2,h3⟩
section
variable {w:World} {Y i:Nat} {v:Value} {cs:Array Value} {fr:Nat × Nat}
theorem row_setFar {b:Nat} {cs':Array Value} {T T':TypeId} {fr':Nat × Nat} (hb:w.heap[b]?=some (.cells cs' T' fr')) (hY:w.heap[Y]?=some (.cells cs T fr)) (hT:T≠T'):(w.setCell ⟨Y,i,none⟩ v).heap[b]?=some (.cells cs' T' fr'):=
 (heap_setCell_other w ⟨Y,i,none⟩ b v (fun h=>by
  have h':b=Y:=h
  rw [h',hY]at hb
  exact hT (by injection hb with hb;injection hb))).trans hb
theorem StAt.setFar {b:Nat} {s:VSt} (h:StAt w b s) (hY:w.heap[Y]?=some (.cells cs 89 fr)):StAt (w.setCell ⟨Y,i,none⟩ v) b s:=by
 obtain⟨xo,xc,yo,yc,to',tc,hr,hl⟩:=h
 exact⟨xo,xc,yo,yc,to',tc,row_setFar hr hY (by decide),⟨hl.x.setFar hY (by decide),hl.y.setFar hY (by decide),hl.t.setFar hY (by decide),hl.xl,hl.yl,hl.tl⟩⟩
theorem MOne.setFar {mb g:Nat} {pv av wv:Value} {mo:Option VM} (h:MOne w mb pv av wv g mo) (hY:w.heap[Y]?=some (.cells cs 89 fr)):MOne (w.setCell ⟨Y,i,none⟩ v) mb pv av wv g mo:=by
 cases mo with
 |none=>exact h
 |some m=>
  obtain⟨⟨b,e1,h1⟩,e2,ps,e3,h2,h3,h4⟩:=h
  exact⟨⟨b,e1,h1.setFar hY⟩,e2,ps,e3,fun j a b=>(h2 j a b).setFar hY,⟨h3.1,h3.2.imp id fun⟨g',cap,cur,a,b,c,d⟩=>⟨g',cap,cur,a,b,row_setFar c hY (by decide),d⟩⟩,h4⟩
theorem MeetI.setFar {mb n j N:Nat} {M:Nat->Option VM} (h:MeetI w mb n j N M) (hY:w.heap[Y]?=some (.cells cs 89 fr)):MeetI (w.setCell ⟨Y,i,none⟩ v) mb n j N M:=
 ⟨h.1.elim fun cs' h=>h.elim fun g h=>⟨cs',g,row_setFar h.row hY (by decide),h.size,h.inj,fun k hk=>by
  obtain⟨pv,av,wv,f0,f1,f2,h1⟩:=h.one k hk
  exact⟨pv,av,wv,f0,f1,f2,h1.setFar hY⟩⟩,h.2⟩
theorem VEnv.setAt {w0:World} {E U mb:Nat} {a:Int} {u:RUnit} {lo fo go co:Option Addr} {lc fc gc cc mc:Nat} (h:VEnv w0 w E U mb a u lo fo go co lc fc gc cc mc) (hE:w0.heap.size<=E) (a':Int):
  VEnv w0 (w.setCell ⟨E,2,none⟩ (.int .i64 a')) E U mb a' u lo fo go co lc fc gc cc mc:=
 ⟨heap_setCell_same w E 2 _ _ _ h.ex,h.bx,h.up,h.bl.setCell (p:=⟨E,2,none⟩) hE _,h.le⟩
end
theorem infoMeet:(Tryz.prog.info? 86).map (fun i=>(i.zero,i.size,i.bytes))=some (some (.agg #[.pointer none,.slice none 0 0,.int .i64 0]),3,40):=by kernel_rfl
theorem mkMeets (n:Nat) (hn:n<=1000000): ∃arr:Array Value,arr.size=n*3/\(∀k,k<n->arr[k*3]?=some (.pointer none)/\arr[k*3+1]?=some (.slice none 0 0)/\arr[k*3+2]?=some (.int .i64 0)) /\
  ∀wx:World,(Instr.makeSlice 87 (.int .i64 (n:Int)) (.int .i64 (n:Int))).run Tryz.prog wx= .ok (.slice (some ⟨wx.heap.size,0,none⟩) n n) (wx.alloc (.cells arr 86)):=by
 obtain⟨i0,hi,hz0,hz1,hz2⟩:=info_parts infoMeet
 refine⟨madeCells (Value.agg #[.pointer none,.slice none 0 0,.int .i64 0]).cells (n*i0.size),by rw [size_madeCells,hz1],fun k hk=>?_,fun wx=>?_⟩
 ·rw [hz1]
  have h3:(Value.agg #[.pointer none,.slice none 0 0,.int .i64 0]).cells=#[.pointer none,.slice none 0 0,.int .i64 0]:=by rfl
  rw [h3]
  have e0:k*3%3=0:=by omega
  have e1:(k*3+1)%3=1:=by omega
  have e2:(k*3+2)%3=2:=by omega
  unfold madeCells
  refine⟨?_,?_,?_⟩
  ·rw [Array.getElem?_map,Array.getElem?_range,if_pos (by omega)];simp [e0]
  ·rw [Array.getElem?_map,Array.getElem?_range,if_pos (by omega)];simp [e1]
  ·rw [Array.getElem?_map,Array.getElem?_range,if_pos (by omega)];simp [e2]
 ·have:=run_make (P:=Tryz.prog) wx 87 86 i0 _ Tryz.underlying87 hi hz0 .i64 .i64 n n (by omega) (Int.le_refl _) (by rw [hz2];omega) (by omega)
  simpa only [Int.toNat_natCast] using this
theorem meet_start {w:World} {mb n:Nat} {arr:Array Value} (hr:w.heap[mb]?=some (.cells arr 86 (0,0))) (hs:arr.size=n*3) (ha: ∀k,k<n->arr[k*3]?=some (.pointer none)/\arr[k*3+1]?=some (.slice none 0 0)/\arr[k*3+2]?=some (.int .i64 0)) (i N:Nat):MeetI w mb n i N (fun _=>none):=
 ⟨⟨arr,fun _=>0,hr,hs,fun _ _ _ _ _ h=>absurd rfl h,fun k hk=>⟨_,_,_,(ha k hk).1,(ha k hk).2.1,(ha k hk).2.2,rfl,rfl,rfl⟩⟩,AInv.nil _ _ _⟩
def chkRow:Array Value:=#[.func (.func 89) #[] #[],.func (.func 90) #[] #[],.func (.func 91) #[] #[],.func (.func 92) #[] #[],.func (.func 94) #[] #[],.func (.func 96) #[] #[]]
theorem vchecks_any (w:World):Calls Tryz.prog 55 #[] w fun e w'=>e= .returned (.slice (some ⟨w.heap.size,0,none⟩) 6 6)/\w'.heap[w.heap.size]?=some (.cells chkRow 126 (0,0))/\Below w.heap.size w w':=by
 have h1:=heap_alloc_new w (.cells chkRow 126)
 have h2:=(Below.refl w.heap.size w).alloc (Nat.le_refl _) (.cells chkRow 126)
 have H1:=Lib.hid h1;have H2:=Lib.hid h2
 clear h1 h2
 go_in
 go_wp2_with fail
 go_ret
 exact⟨rfl,H1.out,H2.out⟩
def PassQ (u:RUnit) (mb i N:Nat) (s:VSt) (x:RIns) (M:Nat->Option VM) (w:World) (e:Ending) (w':World):Prop:=
 e= .returned (.int .i64 (passE u i s x (stM M)))/\AddK mb w w'/\(passE u i s x (stM M)=0->MeetI w' mb u.code.length (i+1) (N+1200) ((addsV u i s x).foldl putM M))
theorem goB_eq {i k : Nat} {x : RIns} : goB i x (k : Int) = (decide ((i : Int) + 1 < (k : Int)) || (((k : Int) == (i : Int) + 1) && ((x.to == (k : Int) && (x.op != 28)) || x.cases.any (caseTo k)))) := by
 unfold goB caseTo
 have e1:decide ((k:Int)=(i:Int)+1)=((k:Int)==(i:Int)+1):=by rw [Bool.eq_iff_iff];simp
 have e2:decide (x.to=(k:Int))=(x.to==(k:Int)):=by rw [Bool.eq_iff_iff];simp
 have e3 : (!decide (x.op = 28)) = (x.op != 28) := by rw [Bool.eq_iff_iff]; simp
 have e4:(fun c:RCase=>decide (c.to=(k:Int)))=fun c=>c.to==(k:Int):=by funext c;rw [Bool.eq_iff_iff];simp
 rw [e1,e2,e3,e4]
structure PsAt (wx:World) (B cb o i k:Nat) (x:RIns) (co':Option Addr) (cc':Nat):Prop where
 kb:wx.cell? ⟨B,0,none⟩=some (.int .i64 k)
 lt:B<wx.heap.size
 c0:wx.cell? ⟨cb,o,none⟩=some (.int .i64 x.op)
 c4:wx.cell? ⟨cb,o+4,none⟩=some (.int .i64 x.to)
 c8:wx.cell? ⟨cb,o+8,none⟩=some (.slice co' x.cases.length cc')
 cs:SlAt wx 2 CaseR co' x.cases
abbrev HandS (w:World) (E p tb to' h:Nat) (ev:Value) (f:Int) (yv tv:Value):Prop:=w.cell? ⟨E,1,none⟩=some ev/\w.cell? ⟨p,0,none⟩=some (.int .i64 f)/\w.cell? ⟨p,2,none⟩=some yv/\w.cell? ⟨p,3,none⟩=some tv/\w.cell? ⟨tb,to',none⟩=some (.int .i64 h)
theorem vpass_any (w0:World) (E U mb p i N:Nat) (u:RUnit) (lo fo go:Option Addr) (cb cf:Nat) (lc fc gc cc mc:Nat) (s:VSt) (x:RIns) (M:Nat->Option VM) (w:World)
  (hx:VEnv w0 w E U mb i u lo fo go (some ⟨cb,cf,none⟩) lc fc gc cc mc) (hm:MeetI w mb u.code.length i N M) (hs:StAt w p s) (hS:SInv u.code.length i s) (hi:i<u.code.length) (hxe:insV u i=x) (hV:VIns u i x) (hc:checksV u i s x=0) (hl:LitsLen u) (hn:u.code.length<=600000) (hN:N<=100000000000):
  Calls Tryz.prog 56 #[.pointer (some ⟨E,0,none⟩),.int .i64 i,.pointer (some ⟨p,0,none⟩)] w (PassQ u mb i N s x M w):=by
 have HX:=Lib.hid hx;have HM:=Lib.hid hm;have HS:=Lib.hid hs;have HSI:=Lib.hid hS;have HV:=Lib.hid hV;have HLL:=Lib.hid hl
 have heff:=Lib.hid (eff_ok hS hV hc)
 have hib: ∃so co' go' sc cc' gc',IBox w0 cb (cf+i*10) x so co' go' sc cc' gc':=by
  obtain⟨b,off,so,co',go',sc,cc',gc',e,h⟩:=ibox_of hx.up.code hi
  injection e with e;injection e with e1 e2
  subst e1;subst e2
  have:u.code[i]=x:=by rw [<-hxe];unfold insV;rw [List.getElem?_eq_getElem hi];rfl
  rw [this]at h
  exact⟨so,co',go',sc,cc',gc',h⟩
 obtain⟨so,co',go',sc,cc',gc',hib⟩:=hib
 have HIB:=Lib.hid hib
 have hmb:=hm.mb
 obtain⟨PE,hPE⟩: ∃PE,PE=passE u i s x (stM M):=⟨_,rfl⟩
 have HPE:=Lib.hid hPE
 have HGOAL:Hid (∀e w',e= .returned (.int .i64 PE)/\AddK mb w w'/\(PE=0->MeetI w' mb u.code.length (i+1) (N+1200) ((addsV u i s x).foldl putM M))->PassQ u mb i N s x M w e w'):=Lib.hid (fun e w' h=>by rw [hPE]at h;exact h)
 have x0:=hx.cx.e0
 have x5:=(hx.bx.below hx.bl).c5
 have hI0:(0:Int)<=(i:Int):=by omega
 have hI1:(i:Int)<(u.code.length:Int):=by omega
 have HEF:=Lib.hid (veffect_any E U mb p cb (cf+i*10) i u lo fo go (some ⟨cb,cf,none⟩) lc fc gc cc mc x s so co' go' sc cc' gc' w hx.cx (hib.below hx.bl) hs (hS.ok (by omega)) hl heff.out)
 clear hPE hx hm hs hS hV hl hc hib heff
 go_in
 go_wp2_with fail
 refine HEF.out.mono ?_
 rintro e w1 ⟨⟨bn,bt,rfl,hsn,hst⟩,hb1⟩
 have hx1:=HX.out.below hb1
 have HX1:=Lib.hid hx1;have HB1:=Lib.hid hb1;have HSN:=Lib.hid hsn;have HST:=Lib.hid hst
 have y0:=hx1.cx.e0
 have y5:=(hx1.bx.below hx1.bl).c5
 have HNX:=Lib.hid (vnext_any cb cf u.code.length cc i x so co' go' sc cc' gc' w1 (HIB.out.below hx1.bl) hi (by omega) HV.out.casesLen)
 clear hx1 hb1 hsn hst x0 x5 HEF
 go_wp2_with fail
 refine HNX.out.mono ?_
 rintro e w2 ⟨⟨ks,ao,c,rfl,hki,hsu,hkl⟩,hb2⟩
 have HB2:=Lib.hid (HB1.out.trans (hb2.mono HB1.out.size))
 have HX2:=Lib.hid (HX1.out.below hb2);have HSN2:=Lib.hid (HSN.out.below hb2);have HST2:=Lib.hid (HST.out.below hb2)
 have HKI:=Lib.hid hki;have HSU:=Lib.hid hsu;have HKL:=Lib.hid hkl
 have HM2:Hid (MeetI w2 mb u.code.length (i+1) N M):=Lib.hid ((HM.out.below HB2.out).mono (Nat.le_succ i) (Nat.le_refl N))
 have HS2:=Lib.hid (HS.out.below HB2.out)
 have HADD:Hid (∀wx,AddK mb w2 wx->AddK mb w wx):=Lib.hid (fun wx h=>(AddK.below (Nat.le_of_lt hmb) HB2.out).trans h)
 obtain⟨t,ht⟩: ∃t,t=toV s x:=⟨_,rfl⟩
 rw [<-ht]at HST2
 have HTI:Hid (SInv u.code.length (i+1) t/\trimT t.x=t.x):=Lib.hid (by rw [ht];exact⟨(to_inv HSI.out x).mono (Nat.le_succ i),(to_inv HSI.out x).tx⟩)
 have HTT:=Lib.hid ht
 obtain⟨nx,hnx⟩: ∃nx,nx=nextV u i s x:=⟨_,rfl⟩
 rw [<-hnx]at HSN2
 have HNN:=Lib.hid hnx
 have HPS:=Lib.hid (pass_is (s:=s) (t:=t) hsu HV.out.jump HTI.out.2 hi M)
 clear y0 y5 hb2 hki hsu HNX HX1 HB1 HSN HST ht hnx
 obtain⟨R,hR⟩: ∃R,R=passL i s t x ks M:=⟨_,rfl⟩
 rw [<-hR]at HPS
 have HR:=Lib.hid hR
 clear hR
 go_wp2_with fail
 go_loopw [40] (fun iv wr=> ∃(j:Nat) (Mj:Nat->Option VM),j<=ks.length/\iv= .int .i64 j/\Hid (R=passL i s t x (ks.drop j) Mj)/\Hid (MeetI wr mb u.code.length (i+1) (N+j) Mj)/\Hid (AddK mb w2 wr)) (fun iv _=>ks.length-(intOf iv).toNat)
 case atStart=>exact⟨0,M,Nat.zero_le _,rfl,Lib.hid (by rw [List.drop_zero];exact HR.out),HM2,Lib.hid (AddK.refl _ _)⟩
 case round=>
  obtain⟨j,Mj,hj,rfl,HRj,HMj,HAj⟩:=hrel
  rename World=>wr
  by_cases hlt:j<ks.length
  ·as_aux_lemma=>
   obtain⟨kb,kf,hao,hkb,q0⟩:=(HKI.out.keep HAj.out.1).cell hlt
   subst hao
   have hkd:ks.getD j 0=ks[j]:=by rw [List.getD_eq_getElem?_getD,List.getElem?_eq_getElem hlt];rfl
   obtain⟨hkt,hk0,hk1⟩:=(HSU.out ks[j]).1 (List.getElem_mem hlt)
   have hdr:ks.drop j=ks[j]::ks.drop (j+1):=List.drop_eq_getElem_cons hlt
   rw [hkd]at q0
   obtain⟨k,hk⟩:=Int.eq_ofNat_of_zero_le hk0
   rw [hk]at q0 hk1 hdr
   have HDR:=Lib.hid hdr
   have hkn:k<u.code.length:=by omega
   have hK0:(0:Int)<=(k:Int):=by omega
   have hK1:(k:Int)<(u.code.length:Int):=by omega
   have hJ0:(0:Int)<=(j:Int):=by omega
   have hJ1:(j:Int)<(ks.length:Int):=by omega
   clear hkd hkt hk0 hk1 hdr hk
   have hal:=(Below.refl wr.heap.size wr).alloc (Nat.le_refl _) (.cells #[.int .i64 k] 3)
   have hbox:=heap_alloc_new wr (.cells #[.int .i64 k] 3)
   go_upto_region 6 with fail
   generalize wr.alloc (.cells #[.int .i64 k] 3)=W at *
   generalize hBe:wr.heap.size=B at *
   have HBE:=Lib.hid hBe
   clear hBe
   have HW:=Lib.hid hal;have HBX:=Lib.hid hbox
   have hMj:MeetI W mb u.code.length (i+1) (N+j) Mj:=HMj.out.below (by rw [HBE.out];exact hal)
   have hAj:AddK mb w2 W:=HAj.out.trans (AddK.below (Nat.le_of_lt HMj.out.mb) (by rw [HBE.out];exact hal))
   have HMW:=Lib.hid hMj;have HAW:=Lib.hid hAj
   have hxW:=HX2.out.add hAj.1 hAj.2
   have HXW:=Lib.hid hxW
   have hibW:=HIB.out.below hxW.bl
   have HPA:Hid (PsAt W B cb (cf+i*10) i k x co' cc'):=Lib.hid ⟨by rw [cell_of_row _ _ _ _ _ _ hbox];rfl,lt_of_row hbox,hibW.c0,hibW.c4,hibW.c8,hibW.cases⟩
   have hz0:=HPA.out.kb
   have HGE:=Lib.hid (goB_eq (i:=i) (k:=k) (x:=x))
   have hcon:=vcontains_any x.cases co' cc' k B
   have hcl:=HV.out.casesLen
   generalize hgo:goB i x (k:Int)=gb at *
   have HGO:=Lib.hid hgo
   have hw1:IntKind.i64.wrap ((i:Int)+1)=(i:Int)+1:=by rw [IntKind.wrap_i64];omega
   clear hal hbox hMj hAj hxW hibW q0 hgo hkb
   go_cut [44] (fun v wx=>v= .bool gb/\Hid (Below W.heap.size W wx))
   case first=>
    as_aux_lemma=>
    have p0:=HPA.out.c0;have p4:=HPA.out.c4;have p8:=HPA.out.c8
    by_cases c1:(i:Int)+1<(k:Int)
    ·have u1:decide ((i:Int)+1<(k:Int))=true:=decide_eq_true c1
     have u2:decide (i+1<k)=true:=decide_eq_true (by omega)
     have E:Hid (gb=true):=Lib.hid (by rw [HGE.out,u1];rfl)
     clear c1 hcon
     go_quiet (fail)
     go_wp2_with fail
     go_meet
     case rel=>exact⟨by rw [E.out],Lib.hid (below_drewN (Below.refl _ _) _)⟩
    ·have u1:decide ((i:Int)+1<(k:Int))=false:=decide_eq_false c1
     have u2:decide (i+1<k)=false:=decide_eq_false (by omega)
     by_cases c2:(k:Int)=(i:Int)+1
     ·have u3:((k:Int)==(i:Int)+1)=true:=beq_iff_eq.2 c2
      have u3':(k==i+1)=true:=beq_iff_eq.2 (by omega)
      generalize hb1:(x.to==(k:Int))=b1 at *
      generalize hb2 : (x.op != 28) = b2 at *
      have HGE2:Hid (gb=(b1&&b2||x.cases.any (caseTo k))):=Lib.hid (by rw [HGE.out,u1,u3];rfl)
      clear HGE c1 c2
      cases hb12:(b1&&b2)with
      |true=>
       obtain⟨rfl,rfl⟩:b1=true/\b2=true:=by simpa using hb12
       have E:Hid (gb=true):=Lib.hid (by rw [HGE2.out];rfl)
       clear hcon hb12 HGE2
       go_quiet (fail)
       go_wp2_with fail
       go_meet
       case rel=>exact⟨by rw [E.out],Lib.hid (below_drewN (Below.refl _ _) _)⟩
      |false=>
       have hcon2:=hcon W.drew HPA.out.lt HPA.out.kb (HPA.out.cs.mono (Below.refl _ _).drew (fun _ _ h=>h)) hcl
       have E:Hid (gb=x.cases.any (caseTo k)):=Lib.hid (by rw [HGE2.out,hb12];rfl)
       have hmf: ∀(fn:Fn) (first cap:Array Value) (w:World),(Instr.makeFunc fn first cap).run Tryz.prog w= .ok (.func fn first cap) w:=fun _ _ _ _=>rfl
       have HCON:=Lib.hid hcon2
       have hlB:=HPA.out.lt
       have hlC:cb<W.heap.size:=Nat.lt_of_lt_of_le HIB.out.lt HXW.out.bl.size
       have KS:Hid (W.drew.cell? ⟨B,0,none⟩=some (.int .i64 k)/\W.drew.cell? ⟨cb,cf+i*10,none⟩=some (.int .i64 x.op)/\W.drew.cell? ⟨cb,cf+i*10+4,none⟩=some (.int .i64 x.to)/\W.drew.cell? ⟨cb,cf+i*10+8,none⟩=some (.slice co' x.cases.length cc')):=Lib.hid ⟨hz0,p0,p4,p8⟩
       generalize x.cases.any (caseTo k)=bq at *
       clear hcon hcon2 HGE2
       have hbb:b1=false∨b1=true/\b2=false:=by
        revert hb12
        cases b1<;>cases b2<;>decide
       clear hb12
       rcases hbb with rfl|⟨rfl,rfl⟩
       all_goals
        go_still_tail 29,(by kernel_rfl)
        change wpList _ _ _ _ _ W.drew
        go_wp2_with fail
        refine HCON.out.mono ?_
        rintro e w5 ⟨rfl,hb5⟩
        have HB5:=Lib.hid hb5
        clear hb5
        go_wp2_with fail
        go_meet
        case rel=>exact⟨by rw [E.out],Lib.hid ((Below.refl _ _).drew.trans HB5.out)⟩
     ·have u3:((k:Int)==(i:Int)+1)=false:=beq_eq_false_iff_ne.2 c2
      have u3':(k==i+1)=false:=beq_eq_false_iff_ne.2 (by omega)
      have E:Hid (gb=false):=Lib.hid (by rw [HGE.out,u1,u3];rfl)
      clear c1 c2 hcon
      go_quiet (fail)
      go_wp2_with fail
      go_meet
      case rel=>exact⟨by rw [E.out],Lib.hid (below_drewN (Below.refl _ _) _)⟩
   case rest=>
    obtain⟨rfl,HWX⟩:=hcut
    rename World=>wx
    have hxx:=HXW.out.below HWX.out
    have HXX:=Lib.hid hxx
    have HMX:=Lib.hid (HMW.out.below HWX.out)
    have HAX:Hid (AddK mb w2 wx):=Lib.hid (HAW.out.trans (AddK.below (Nat.le_of_lt HMW.out.mb) HWX.out))
    have hk1:wx.cell? ⟨B,0,none⟩=some (.int .i64 k):=(HWX.out.cell (p:=⟨B,0,none⟩) HPA.out.lt).trans hz0
    have e1:=hxx.cx.e1
    clear hcon hz0 hxx HGE
    cases gb with
    |true=>
     as_aux_lemma=>
     have HRJ:Hid (R=passL i s t x (ks.drop (j+1)) (putM Mj (k,t))):=Lib.hid (by rw [HRj.out,HDR.out,passL,if_pos HGO.out,Int.toNat_natCast])
     have hadd:=vaddI_any mb u.code.length (i+1) (N+j) k bt Mj t wx.drew (HMX.out.below (Below.refl _ _).drew) hkn ((HST2.out.keep HAX.out.1).below (Below.refl _ _).drew) HTI.out.1 (by omega) (by omega)
     have HADD2:=Lib.hid hadd
     clear hadd HRj HGO
     go_wp2_with fail
     go_still_tail 7,(by kernel_rfl)
     change wpList _ _ _ _ _ wx.drew
     go_wp2_with fail
     refine HADD2.out.mono ?_
     rintro e w5 ⟨rfl,hm5,ha5⟩
     have HM5:Hid (MeetI w5 mb u.code.length (i+1) (N+(j+1)) (putM Mj (k,t))):=Lib.hid hm5
     have HA5:Hid (AddK mb w2 w5):=Lib.hid ((HAX.out.trans (AddK.below (Nat.le_of_lt HMX.out.mb) (Below.refl _ _).drew)).trans ha5)
     clear hm5 ha5 HADD2
     go_wp2_with fail
     refine⟨⟨j+1,putM Mj (k,t),hlt,by go_num,HRJ,HM5,HA5⟩,by simp [intOf];omega⟩
    |false=>
     as_aux_lemma=>
     by_cases c1:(k:Int)<=(i:Int)
     ·have u1:decide ((k:Int)<=(i:Int))=true:=decide_eq_true c1
      have u2:decide (k<=i)=true:=decide_eq_true (by omega)
      obtain⟨⟨csx,gx,hmx⟩,hax⟩:=HMX.out
      have hbk:=vback_any E U mb p k i u lo fo go (some ⟨cb,cf,none⟩) lc fc gc cc mc s Mj csx gx wx HXX.out.cx hmx (HS2.out.keep HAX.out.1) (HSI.out.ok (by omega)).len hkn (fun m hm=>((hax k m hm).st.ok (by omega)).len)
      have HBK:=Lib.hid hbk
      clear hbk hmx hax
      by_cases c2:backB (stM Mj k) s=true
      ·have ER:Hid (R=(184,Mj)):=Lib.hid (by rw [HRj.out,HDR.out,passL,if_neg (by rw [HGO.out];decide),if_pos ⟨c1,by rw [Int.toNat_natCast];exact c2⟩])
       have EPE:Hid (PE=184):=Lib.hid (by
        have h:=HPS.out.1
        rw [ER.out]at h
        rw [HPE.out]
        unfold passE
        by_cases c:toB x.op=true/\x.to<=i/\backB (stM M x.to.toNat) s=true
        ·rw [if_pos c]
        ·rw [if_neg c]at h;exact absurd (show(184:Int)=0 from h) (by decide))
       rw [if_pos c2]at HBK
       clear c1 c2 HRj HDR HPS HPE
       go_wp2_with fail
       refine HBK.out.mono ?_
       rintro e w5 ⟨rfl,n5,rfl⟩
       go_wp2_with fail
       go_ret
       exact HGOAL.out _ _ ⟨ret_i EPE.out.symm,HADD.out _ (HAX.out.trans (AddK.below (Nat.le_of_lt HMX.out.mb) (below_drewN (Below.refl _ _) _))),fun h=>absurd h (by rw [EPE.out];decide)⟩
      ·have HRJ:Hid (R=passL i s t x (ks.drop (j+1)) Mj):=Lib.hid (by rw [HRj.out,HDR.out,passL,if_neg (by rw [HGO.out];decide),if_neg (fun h=>c2 (by rw [<-Int.toNat_natCast k];exact h.2))])
       rw [if_neg c2]at HBK
       clear c1 c2 HRj HDR
       go_wp2_with fail
       refine HBK.out.mono ?_
       rintro e w5 ⟨rfl,n5,rfl⟩
       go_wp2_with fail
       refine⟨⟨j+1,Mj,hlt,by go_num,HRJ,Lib.hid ((HMX.out.below (below_drewN (Below.refl _ _) _)).mono (Nat.le_refl _) (by omega)),Lib.hid (HAX.out.trans (AddK.below (Nat.le_of_lt HMX.out.mb) (below_drewN (Below.refl _ _) _)))⟩,by simp [intOf];omega⟩
     ·have u1:decide ((k:Int)<=(i:Int))=false:=decide_eq_false c1
      have u2:decide (k<=i)=false:=decide_eq_false (by omega)
      have HRJ:Hid (R=passL i s t x (ks.drop (j+1)) Mj):=Lib.hid (by rw [HRj.out,HDR.out,passL,if_neg (by rw [HGO.out];decide),if_neg (fun h=>c1 h.1)])
      clear c1 HRj HDR
      go_wp2_with fail
      refine⟨⟨j+1,Mj,hlt,by go_num,HRJ,Lib.hid (HMX.out.mono (Nat.le_refl _) (by omega)),HAX⟩,by simp [intOf];omega⟩
  ·obtain rfl:j=ks.length:=by omega
   have hRj:=HRj.out
   rw [List.drop_length]at hRj
   have hR1:R.1=0:=by rw [hRj];rfl
   have hR2:R.2=Mj:=by rw [hRj];rfl
   have hM1:Mj=((tosV i x).map (fun k=>(k,t))).foldl putM M:=hR2.symm.trans (HPS.out.2 hR1)
   have hno: ¬(toB x.op=true/\x.to<=i/\backB (stM M x.to.toNat) s=true):=fun h=>by
    have:=HPS.out.1
    rw [hR1,if_pos h]at this
    exact absurd this (by decide)
   have EPE:Hid (PE=if followsV x.op=true/\i+1=u.code.length then 185 else 0):=Lib.hid (by rw [HPE.out];unfold passE;rw [if_neg hno])
   have HM1:=Lib.hid hM1
   have hjl:=HKL.out
   clear hRj hR1 hR2 hM1 hno HRj HPS HPE HR
   have hpp:=HS2.out.keep HAj.out.1
   obtain⟨xo,xc,yo,yc,to',tc,c0,c1,c2,c3,c4,c5,c6,hL⟩:=hpp.cells
   have hxr:=HX2.out.add HAj.out.1 HAj.out.2
   have HXR:=Lib.hid hxr;have HLS:=Lib.hid hL
   have hib:=HIB.out.below hxr.bl
   have p0:=hib.c0
   have e1:=hxr.cx.e1
   have hra: ∀wx,Calls Tryz.prog 97 #[.int .i64 x.op] wx fun e w'=>e= .returned (.bool (raises x.op))/\w'=wx:=fun wx=>(raises_any x.op wx).mono fun _ _ ⟨a,b⟩=>⟨a,b.symm⟩
   have HRA:=Lib.hid hra
   have hst:=HSI.out.t
   clear hra hpp hxr hib c1 c4 c5 c6 hL
   obtain⟨M2,hM2⟩: ∃M2,M2=(if raises x.op=true/\s.tries≠ []then putM Mj ((lastT s.tries).toNat,handV s)else Mj):=⟨_,rfl⟩
   have HM2':=Lib.hid hM2
   clear hM2
   obtain⟨tb,htb⟩: ∃tb,tb=(decide (s.tries≠ [])&&raises x.op):=⟨_,rfl⟩
   have HTB:=Lib.hid htb
   obtain⟨tn,htn⟩: ∃tn,tn=s.tries.length:=⟨_,rfl⟩
   rw [<-htn]at c3 hst
   have HTN:=Lib.hid htn
   clear htb htn
   go_upto_region 14 with fail
   go_cut [111] (fun v wx=>v= .bool tb/\wr=wx)
   case first=>
    as_aux_lemma=>
    cases tn with
    |zero=>
     have EH:Hid (tb=false):=Lib.hid (by rw [HTB.out,List.eq_nil_of_length_eq_zero HTN.out.symm];rfl)
     go_wp2_with fail
     go_meet
     case rel=>exact⟨by rw [EH.out],rfl⟩
    |succ m=>
     have EH:Hid (tb=raises x.op):=Lib.hid (by
      have:s.tries≠ []:=fun h=>by have:=HTN.out;rw [h]at this;cases this
      rw [HTB.out,decide_eq_true this];rfl)
     have u1:decide (((m+1:Nat):Int)>0)=true:=decide_eq_true (by omega)
     have u2:decide (0<m+1)=true:=decide_eq_true (by omega)
     generalize raises x.op=rr at *
     go_wp2_with fail
     refine(HRA.out _).mono ?_
     rintro e w' ⟨rfl,rfl⟩
     go_wp2_with fail
     go_meet
     case rel=>exact⟨by rw [EH.out],rfl⟩
   case rest=>
    obtain⟨rfl,rfl⟩:=hcut
    go_upto_if 111 with fail
    go_cut [] (fun wx=>Hid (MeetI wx mb u.code.length (i+1) (N+1110) M2)/\Hid (AddK mb w2 wx))
    case first=>
     as_aux_lemma=>
     cases tb with
     |false=>
      have EH:Hid (M2=Mj):=Lib.hid (by
       rw [HM2'.out,if_neg]
       rintro⟨h1,h2⟩
       have:=HTB.out
       rw [h1,decide_eq_true h2]at this;cases this)
      go_wp2_with fail
      go_meet
      case rel=>exact⟨Lib.hid (by rw [EH.out];exact HMj.out.mono (Nat.le_refl _) (by omega)),HAj⟩
     |true=>
      have hb2:s.tries≠ []/\raises x.op=true:=by
       have:=HTB.out
       rw [eq_comm,Bool.and_eq_true,decide_eq_true_eq]at this;exact this
      have EH:Hid (M2=putM Mj ((lastT s.tries).toNat,handV s)):=Lib.hid (by rw [HM2'.out,if_pos ⟨hb2.2,hb2.1⟩])
      obtain⟨m,hmt⟩: ∃m,tn=m+1:=by
       cases tn with
       |zero=>exact absurd (List.eq_nil_of_length_eq_zero HTN.out.symm) hb2.1
       |succ m=>exact⟨m,rfl⟩
      have HMT:=Lib.hid hmt
      have hml:m<s.tries.length:=by have:=HTN.out;omega
      have hlast:lastT s.tries=s.tries.getD m 0:=by unfold lastT;rw [<-HTN.out,hmt];rfl
      obtain⟨tb',tf',htt,htlt,z⟩:=HLS.out.t.cell hml
      rw [<-hlast]at z
      have hmem:lastT s.tries∈s.tries:=by
       rw [hlast,List.getD_eq_getElem?_getD,List.getElem?_eq_getElem hml];exact List.getElem_mem hml
      obtain⟨hr0,hr1⟩:=HSI.out.tr _ hmem
      obtain⟨h,hh⟩:=Int.eq_ofNat_of_zero_le hr0
      rw [hh]at z hr1
      have EH2:Hid (M2=putM Mj (h,handV s)):=Lib.hid (by rw [EH.out,hh,Int.toNat_natCast])
      have hhn:h<u.code.length:=by omega
      have hH0:(0:Int)<=(h:Int):=by omega
      have hH1:(h:Int)<(u.code.length:Int):=by omega
      have hm0:(0:Int)<=(m:Int):=by omega
      have hm1:(m:Int)<(tn:Int):=by omega
      have hw:IntKind.i64.wrap ((tn:Int)-1)=(m:Int):=by rw [IntKind.wrap_i64];omega
      have hw2:IntKind.i64.wrap (m:Int)=(m:Int):=by rw [IntKind.wrap_i64];omega
      have htake:s.tries.take (s.tries.length-1)=s.tries.take m:=by rw [<-HTN.out,hmt];rfl
      have hmle:(m:Int)<=(tn:Int):=by omega
      have hmc:(m:Int)<=(tc:Int):=by have:=HLS.out.tl;omega
      subst htt
      clear hmt
      have hEl:=lt_of_row HXR.out.ex
      have hpl:=(HS2.out.keep HAj.out.1).lt
      have HANY:Hid (Calls Tryz.prog 88 #[.int .i64 2] wr.drew fun e w5=> ∃xa xk,e= .returned (.slice xa 2 xk) /\
        Hid (Calls Tryz.prog 53 #[.pointer (some ⟨mb,h*3,none⟩),.pointer (some ⟨w5.heap.size,0,none⟩)] (w5.alloc (.cells #[.int .i64 s.frame,.slice xa 2 xk,.slice yo s.y.length yc,.slice (some ⟨tb',tf',none⟩) m tc,.bool false,.int .i64 0,.int .i64 0] 91)) fun e w7=>e= .returned (.tuple #[])/\Hid (HandS w7 E p tb' (tf'+m) h (.slice (some ⟨mb,0,none⟩) u.code.length mc) s.frame (.slice yo s.y.length yc) (.slice (some ⟨tb',tf',none⟩) tn tc))/\Hid (MeetI w7 mb u.code.length (i+1) (N+1110) M2)/\Hid (AddK mb w2 w7)) /\
        Hid (HandS w5 E p tb' (tf'+m) h (.slice (some ⟨mb,0,none⟩) u.code.length mc) s.frame (.slice yo s.y.length yc) (.slice (some ⟨tb',tf',none⟩) tn tc)) /\
        Hid (HandS (w5.alloc (.cells #[.int .i64 s.frame,.slice xa 2 xk,.slice yo s.y.length yc,.slice (some ⟨tb',tf',none⟩) m tc,.bool false,.int .i64 0,.int .i64 0] 91)) E p tb' (tf'+m) h (.slice (some ⟨mb,0,none⟩) u.code.length mc) s.frame (.slice yo s.y.length yc) (.slice (some ⟨tb',tf',none⟩) tn tc))):=Lib.hid (by
       refine(vanys_any 2 wr.drew ⟨by decide,by decide⟩).mono ?_
       rintro e w5 ⟨⟨xa,xk,rfl,hxi,hxk⟩,hb5⟩
       have hb5':Below wr.heap.size wr w5:=(Below.refl _ _).drew.trans hb5
       have hb6:Below wr.heap.size wr (w5.alloc (.cells #[.int .i64 s.frame,.slice xa 2 xk,.slice yo s.y.length yc,.slice (some ⟨tb',tf',none⟩) m tc,.bool false,.int .i64 0,.int .i64 0] 91)):=hb5'.alloc hb5'.size _
       have hrow:=heap_alloc_new w5 (.cells #[.int .i64 s.frame,.slice xa 2 xk,.slice yo s.y.length yc,.slice (some ⟨tb',tf',none⟩) m tc,.bool false,.int .i64 0,.int .i64 0] 91)
       have hal:=(Below.refl w5.heap.size w5).alloc (Nat.le_refl _) (.cells #[.int .i64 s.frame,.slice xa 2 xk,.slice yo s.y.length yc,.slice (some ⟨tb',tf',none⟩) m tc,.bool false,.int .i64 0,.int .i64 0] 91)
       have hs0:HandS wr E p tb' (tf'+m) h (.slice (some ⟨mb,0,none⟩) u.code.length mc) s.frame (.slice yo s.y.length yc) (.slice (some ⟨tb',tf',none⟩) tn tc):=⟨e1,c0,c2,c3,z⟩
       have hbh: ∀wx,Below wr.heap.size wr wx->HandS wx E p tb' (tf'+m) h (.slice (some ⟨mb,0,none⟩) u.code.length mc) s.frame (.slice yo s.y.length yc) (.slice (some ⟨tb',tf',none⟩) tn tc):=fun wx hb=>
        ⟨(hb.cell (p:=⟨E,1,none⟩) hEl).trans e1,(hb.cell (p:=⟨p,0,none⟩) hpl).trans c0,(hb.cell (p:=⟨p,2,none⟩) hpl).trans c2,(hb.cell (p:=⟨p,3,none⟩) hpl).trans c3,(hb.cell (p:=⟨tb',tf'+m,none⟩) htlt).trans z⟩
       refine⟨xa,xk,rfl,Lib.hid ?_,Lib.hid (hbh _ hb5'),Lib.hid (hbh _ hb6)⟩
       have hsth:StAt (w5.alloc (.cells #[.int .i64 s.frame,.slice xa 2 xk,.slice yo s.y.length yc,.slice (some ⟨tb',tf',none⟩) m tc,.bool false,.int .i64 0,.int .i64 0] 91)) w5.heap.size (handV s):=by
        have hlm:(s.tries.take m).length=m:=by rw [List.length_take];omega
        refine⟨xa,xk,yo,yc,some ⟨tb',tf',none⟩,tc,hrow.trans ?_,⟨hxi.below hal,HLS.out.y.below hb6,?_,hxk,HLS.out.yl,?_⟩⟩
        ·unfold stRow handV;simp only [htake,hlm];rfl
        ·show IntsAt _ _ (s.tries.take (s.tries.length-1))
         rw [htake];exact(HLS.out.t.below hb6).take m
        ·show(s.tries.take (s.tries.length-1)).length<=tc
         have:=HLS.out.tl
         rw [htake,hlm];omega
       refine(vaddI_any mb u.code.length (i+1) (N+ks.length) h w5.heap.size Mj (handV s) _ (HMj.out.below hb6) hhn hsth ((hand_inv HSI.out).mono (Nat.le_succ i)) (by omega) (by omega)).mono ?_
       rintro e w7 ⟨rfl,hm7,ha7⟩
       have hx7:=(HXR.out.below hb6).add ha7.1 ha7.2
       have hs7:=((HS2.out.keep HAj.out.1).below hb6).keep ha7.1
       have hk7: ∀(q o:Nat) (v:Value) (cs:Array Value) (T:TypeId) (fr:Nat × Nat),wr.heap[q]?=some (.cells cs T fr)->T≠86->T≠83->wr.cell? ⟨q,o,none⟩=some v->w7.cell? ⟨q,o,none⟩=some v:=fun q o v cs T fr hq h1 h2 hv=>by
        have:=((KeepT.below hb6).trans ha7.1).2 q cs T fr hq h1 h2
        rw [cell_of_row _ _ _ _ _ _ this,<-cell_of_row _ _ _ _ _ _ hq];exact hv
       obtain⟨_,_,_,_,_,_,hprow,hpls⟩:=HS2.out.keep HAj.out.1
       obtain hnil|⟨tbx,tfx,tcs,tfr,hte,htrow,-⟩:=HLS.out.t
       ·exact absurd hnil hb2.1
       ·injection hte with hte;injection hte with hte1 hte2
        subst hte1
        exact⟨rfl,Lib.hid ⟨hk7 _ _ _ _ _ _ HXR.out.ex (by decide) (by decide) e1,hk7 _ _ _ _ _ _ hprow (by decide) (by decide) c0,hk7 _ _ _ _ _ _ hprow (by decide) (by decide) c2,hk7 _ _ _ _ _ _ hprow (by decide) (by decide) c3,hk7 _ _ _ _ _ _ htrow (by decide) (by decide) z⟩,
         Lib.hid (by rw [EH2.out];exact hm7.mono (Nat.le_refl _) (by omega)),Lib.hid ((HAj.out.trans (AddK.below (Nat.le_of_lt HMj.out.mb) hb6)).trans ha7)⟩)
      have KS:Hid (HandS wr.drew E p tb' (tf'+m) h (.slice (some ⟨mb,0,none⟩) u.code.length mc) s.frame (.slice yo s.y.length yc) (.slice (some ⟨tb',tf',none⟩) tn tc)):=Lib.hid ⟨e1,c0,c2,c3,z⟩
      clear hr0 hr1 hmem hh hlast hml hb2 hEl hpl htlt htake EH EH2
      go_upto_region 15 with fail
      first|go_region_held3 (fun w'=>w'.cell? ⟨E,1,none⟩=some (.slice (some ⟨mb,0,none⟩) u.code.length mc)/\w'.cell? ⟨p,0,none⟩=some (.int .i64 s.frame)/\w'.cell? ⟨p,2,none⟩=some (.slice yo s.y.length yc)/\w'.cell? ⟨p,3,none⟩=some (.slice (some ⟨tb',tf',none⟩) tn tc)/\w'.cell? ⟨tb',tf'+m,none⟩=some (.int .i64 h)) (first|with_reducible exact KS.out|with_reducible exact KS5.out|with_reducible exact KS6.out|with_reducible exact KS7.out)
       ((first|(go_at_call 88;(with_reducible refine HANY.out.mono ?_);rintro e w5 ⟨xa,xk,rfl,HQ5,KS5,KS6⟩)|(go_at_call 53;(with_reducible refine HQ5.out.mono ?_);rintro e w7 ⟨rfl,KS7,HM7,HA7⟩)))|fail
      go_wp2_with fail
      go_meet
      case rel=>exact⟨HM7,HA7⟩
    case rest=>
     obtain⟨HM3,HA3⟩:=hcut
     rename World=>wz
     have hxz:=HX2.out.add HA3.out.1 HA3.out.2
     have HXZ:=Lib.hid hxz
     have q0:=(HIB.out.below hxz.bl).c0
     have z0:=hxz.cx.e0
     have z1:=hxz.cx.e1
     have z5:=(hxz.bx.below hxz.bl).c5
     have hadds:(addsV u i s x).foldl putM M=if followsV x.op=true then putM M2 (i+1,nx)else M2:=by
      rw [adds_tos,List.foldl_append,List.foldl_append,<-HTT.out,<-HM1.out,<-HNN.out,HM2'.out]
      by_cases h1:raises x.op=true/\s.tries≠ []<;>by_cases h2:followsV x.op=true<;>simp [h1,h2]
     have HADDS:=Lib.hid hadds
     have hfo: ∀wx,Calls Tryz.prog 103 #[.int .i64 x.op] wx fun e w'=>e= .returned (.bool (followsV x.op))/\w'=wx:=fun wx=>follows_any x.op wx
     clear hxz hadds e1 c0 c2 c3 p0 HTB
     generalize followsV x.op=fo at *
     have HFO:=Lib.hid hfo
     clear hfo
     cases fo with
     |false=>
      as_aux_lemma=>
      have EH:Hid (PE=0):=Lib.hid (by rw [EPE.out,if_neg (by simp)])
      have EM:Hid ((addsV u i s x).foldl putM M=M2):=Lib.hid (by rw [HADDS.out,if_neg (by simp)])
      clear EPE HADDS
      go_wp2_with fail
      refine(HFO.out _).mono ?_
      rintro e w' ⟨rfl,rfl⟩
      go_wp2_with fail
      go_ret
      exact HGOAL.out _ _ ⟨ret_i EH.out.symm,HADD.out _ HA3.out,fun _=>by rw [EM.out];exact HM3.out.mono (Nat.le_refl _) (by omega)⟩
     |true=>
      by_cases hil:i+1=u.code.length
      ·as_aux_lemma=>
       have EH:Hid (PE=185):=Lib.hid (by rw [EPE.out,if_pos ⟨rfl,hil⟩])
       have u1:((i:Int)+1==(u.code.length:Int))=true:=by rw [beq_iff_eq];omega
       have u2:(i+1==u.code.length)=true:=by rw [beq_iff_eq];omega
       clear EPE HADDS hil
       go_wp2_with fail
       refine(HFO.out _).mono ?_
       rintro e w' ⟨rfl,rfl⟩
       go_wp2_with fail
       go_ret
       exact HGOAL.out _ _ ⟨ret_i EH.out.symm,HADD.out _ HA3.out,fun h=>absurd h (by rw [EH.out];decide)⟩
      ·as_aux_lemma=>
       have EH:Hid (PE=0):=Lib.hid (by rw [EPE.out,if_neg (fun h=>hil h.2)])
       have EM:Hid ((addsV u i s x).foldl putM M=putM M2 (i+1,nx)):=Lib.hid (by rw [HADDS.out,if_pos rfl])
       have u1:((i:Int)+1==(u.code.length:Int))=false:=by rw [beq_eq_false_iff_ne];omega
       have u2:(i+1==u.code.length)=false:=by rw [beq_eq_false_iff_ne];omega
       have hI2:(0:Int)<=(i:Int)+1:=by omega
       have hI3:(i:Int)+1<(u.code.length:Int):=by omega
       have hni:=next_inv HSI.out HV.out hi
       rw [<-HNN.out]at hni
       have HAD:=Lib.hid (vaddI_any mb u.code.length (i+1) (N+1110) (i+1) bn M2 nx wz HM3.out (by omega) (HSN2.out.keep HA3.out.1) hni (by omega) (by omega))
       clear EPE HADDS hil hni
       go_wp2_with fail
       refine(HFO.out _).mono ?_
       rintro e w' ⟨rfl,rfl⟩
       go_wp2_with fail
       refine HAD.out.mono ?_
       rintro e w7 ⟨rfl,hm7,ha7⟩
       have HM7:=Lib.hid hm7;have HA7:=Lib.hid ha7
       clear hm7 ha7
       go_wp2_with fail
       go_ret
       exact HGOAL.out _ _ ⟨ret_i EH.out.symm,HADD.out _ (HA3.out.trans HA7.out),fun _=>by rw [EM.out];exact HM7.out.mono (Nat.le_refl _) (by omega)⟩
end Go.Proofs.YtepjanajflkakaaGreatDoor
