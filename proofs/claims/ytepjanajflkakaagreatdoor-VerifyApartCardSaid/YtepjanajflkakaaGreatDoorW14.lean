import Derived.Test.YtepjanajflkakaaGreatDoorW07
import Derived.Test.YtepjanajflkakaaGreatDoorW09
import Derived.Test.YtepjanajflkakaaGreatDoorW11
import Derived.Test.YtepjanajflkakaaGreatDoorW12
namespace Go.Proofs.YtepjanajflkakaaGreatDoor
open Go.RowKit
set_option linter.unusedVariables false
set_option linter.unusedSimpArgs false
set_option maxRecDepth 100000
set_option maxHeartbeats 0
def zfh (op:Int):Bool:=decide (1<=op/\op<=40)
def zE (op:Int):Int × Int × Int:=(rowT[op.toNat]?).getD (0,0,0)
def zeh (u:RUnit) (i:Nat) (x:RIns):Bool:=
 zfh x.op&&(zB u.lits.length x (zE x.op).1.toNat (zE x.op).2.1.toNat (zE x.op).2.2.toNat&&(zh u.funcs.length u.funs x&&(zbv x&&(zbF u.lits x&&zbx u.code i x (zE x.op).1.toNat))))
def zbk (u:RUnit):List RIns->Nat->Option Nat
 |[],_=>none
 |x::l,i=>if zeh u i x=true then zbk u l (i+1)else some i
def zci (f:Nat) (u:RUnit):Int:=if zF f u=true then(match zbk u u.code 0 with|some i=>(i:Int)|none=>0)else -1
def zbN (f:Nat) (u:RUnit):Int:=if zF f u=true then(match zbk u u.code 0 with|some _=>6|none=>0)else 6
theorem zkM (u:RUnit) {l:List RIns} {k:Nat} (h:k<l.length):zbk u (l.drop k) k=if zeh u k l[k]=true then zbk u (l.drop (k+1)) (k+1)else some k:=by
 rw [List.drop_eq_getElem_cons h,zbk]
theorem zgL: ∀k,(h:k<41)->0<=(rowT[k]'h).1/\(rowT[k]'h).1<1000/\0<=(rowT[k]'h).2.1/\(rowT[k]'h).2.1<1000/\0<=(rowT[k]'h).2.2/\(rowT[k]'h).2.2<1000:=by decide
theorem zj1 {op:Int} (h:1<=op/\op<=40) (w:World) (hr:RowsAt w):
  Calls Tryz.prog 39 #[.int .i64 op] w fun e w'=>e= .returned (.tuple #[.agg #[.int .i64 ((zE op).1.toNat:Nat),.int .i64 ((zE op).2.1.toNat:Nat),.int .i64 ((zE op).2.2.toNat:Nat)],.bool true])/\Below w.heap.size w w':=by
 obtain⟨k,rfl⟩: ∃k:Nat,op=(k:Int):=⟨op.toNat,by omega⟩;have hk:k<41:=by omega
 have h1:=zi3 k (by omega) hk w hr;obtain⟨a,b,c,d,e,g⟩:=zgL k hk;have hra:zE (k:Int)=rowT[k]'hk:=by unfold zE;rw [zzq13,zzq4 (by exact hk)];rfl
 rw [hra,Int.toNat_of_nonneg a,Int.toNat_of_nonneg c,Int.toNat_of_nonneg e];exact h1
theorem zkA {op:Int}:(zE op).1.toNat<1000/\(zE op).2.1.toNat<1000/\(zE op).2.2.toNat<1000:=by
 unfold zE;by_cases h:op.toNat<41
 ·obtain⟨a,b,c,d,e,g⟩:=zgL op.toNat h
  rw [zzq4 (by exact h)];simp only [Option.getD_some];omega
 ·rw [List.getElem?_eq_none (by exact Nat.le_of_not_lt h)]
  simp
theorem zcQ {k k':IntKind} {a b c d:Int} (h:a=b) (h':c=d):Ending.returned (.tuple #[.int k a,.int k' c])= .returned (.tuple #[.int k b,.int k' d]):=by rw [h,h']
theorem ze2 {f:Nat} {u:RUnit} (h:zF f u=true): ∀t∈u.lits,zbc f t=true:=by
 unfold zF at h;rw [zzq6,zzq6]at h;exact zzp.1 h.2.1
theorem zjy (f:Nat) (u:RUnit) (lo fo go co:zzA) (lc fc gc cc:Nat) (w:World) (hrows:RowsAt w) (hsp:SpaceAt w) (hp:UP w u lo fo go co) (hlits:SlAt w 9 (TmAt w (f+1)) lo u.lits) (hcap: ∀t∈u.lits,(zv (f+1) t:Int)<=1152921504606846976) (hnm: ∀x∈u.code,x.name.size<=140737488355328):
  Calls Tryz.prog 16 #[.agg (zzu u lo lc fo fc go gc co cc)] w fun e w'=>e= .returned (.tuple #[.int .i64 (zci (f+1) u),.int .i64 (zbN (f+1) u)])/\Below w.heap.size w w':=by
 unfold zzu;refine zzK6 hp hrows hsp hlits hcap hnm fun HP HRW HSP HLI HCAP HNM=>?_;clear hrows hsp hp hlits hcap hnm;have hbx:=zeJ w u lo fo go co lc fc gc cc;have hba:Below w.heap.size w (w.alloc (.cells (zzu u lo lc fo fc go gc co cc) 27)):=zzE _ _;have hT:=zhL f w.heap.size u lo fo go co lc fc gc cc _ hbx (HP.out.below hba) (HLI.out.tms hba) HCAP.out;have HBX:=zzH hbx;have HBA:=zzH hba;have EI:Hid (zci (f+1) u=if zF (f+1) u=true then(match zbk u u.code 0 with|some i=>(i:Int)|none=>0)else -1):=zzH rfl;have EE:Hid (zbN (f+1) u=if zF (f+1) u=true then(match zbk u u.code 0 with|some _=>6|none=>0)else 6):=zzH rfl;clear hbx hba
 cases htb:zF (f+1) u with
 |false=>
  rw [htb]at hT EI EE;rw [if_neg (by decide)]at EI EE;clear htb;go_in;go_wp2_with fail;refine hT.mono ?_;rintro e w5 ⟨rfl,hb5⟩;go_wp2;go_ret2;exact⟨zcQ EI.out.symm EE.out.symm,zd HBA.out hb5⟩
 |true=>
  rw [htb]at hT EI EE;rw [if_pos rfl]at EI EE;have HLV:=zzH (ze2 htb);have HI:Hid (zbk u u.code 0=zbk u (u.code.drop 0) 0):=zzH rfl;clear htb;have hcl:=HP.out.codeLen;go_in;go_wp2_with fail;refine hT.mono ?_;rintro e w5 ⟨rfl,hb5⟩;have HB5:=zzH (zd HBA.out hb5);have HU5:=zzH (HBX.out.below hb5);have d5:=HU5.out.c5;have hsz:w.heap.size<=w5.heap.size:=HB5.out.size;clear hb5 hT HBX HBA;generalize hBe:w.heap.size=B at *;have HBE:=zzH hBe;clear hBe;go_wp2_with fail;go_loopw [13] (fun i wr=> ∃k:Nat,k<=u.code.length/\i= .int .i64 k/\Hid (zbk u u.code 0=zbk u (u.code.drop k) k)/\Below w5.heap.size w5 wr) (fun i _=>u.code.length-(intOf i).toNat)
  case atStart=>exact⟨0,zzZ _,rfl,HI,zzR _ _⟩
  case round=>
   obtain⟨k,hk,rfl,HK,hBw⟩:=hrel;rename World=>wr
   by_cases hlt:k<u.code.length
   ·have HFW:Hid (Below w.heap.size w wr):=zzH (by rw [HBE.out];exact HB5.out.trans (hBw.mono hsz))
    obtain⟨bc,oc,so,co',go',sc,cc',gc',hco,hxb⟩:=zdz (HP.out.below HFW.out).code hlt;subst hco;have HST:=zzH (zkM u hlt);have hui:=HU5.out.below hBw;have e5:=hui.c5;have c0:=hxb.c0;have hbl:=hxb.lt;have hBl:=hui.lt;have hll:=HP.out.litsLen;have hrl:= @zkA u.code[k].op;have HINS:Hid (zeh u k u.code[k]=(zfh u.code[k].op&&(zB u.lits.length u.code[k] (zE u.code[k].op).1.toNat (zE u.code[k].op).2.1.toNat (zE u.code[k].op).2.2.toNat&&(zh u.funcs.length u.funs u.code[k]&&(zbv u.code[k]&&(zbF u.lits u.code[k]&&zbx u.code k u.code[k] (zE u.code[k].op).1.toNat)))))):=zzH rfl;have cf:=fun wx (hx:Below wr.heap.size wr wx)=>zhZ B u lo fo go (some ⟨bc,oc,none⟩) lc fc gc cc bc (oc+k*10) u.code[k] so co' go' sc cc' gc' (zE u.code[k].op).1.toNat (zE u.code[k].op).2.1.toNat (zE u.code[k].op).2.2.toNat wx (hui.below hx) hll (hxb.below hx) hrl.1 hrl.2.1 hrl.2.2
    have cn:=fun wx (hx:Below wr.heap.size wr wx)=>zid B u lo fo go (some ⟨bc,oc,none⟩) lc fc gc cc bc (oc+k*10) u.code[k] so co' go' sc cc' gc' wx (hui.below hx) HP.out.funcsLen HP.out.funsLen ((HP.out.below HFW.out).below hx).funs (hxb.below hx)
    have cm:=fun wx (hx:Below wr.heap.size wr wx)=>zjI bc (oc+k*10) u.code[k] so co' go' sc cc' gc' wx ((HSP.out.below HFW.out).below hx) (hxb.below hx) (HNM.out _ (zzM hlt))
    have cl:=fun wx (hx:Below wr.heap.size wr wx)=>zjb B u lo fo go (some ⟨bc,oc,none⟩) lc fc gc cc bc (oc+k*10) u.code[k] so co' go' sc cc' gc' f wx (hui.below hx) hll ⟨(HLI.out.tms HFW.out).tms hx,fun t ht=>⟨HLV.out t ht,HCAP.out t ht⟩⟩ (hxb.below hx)
    have ct:=fun wx (hx:Below wr.heap.size wr wx)=>zg4 B u lo fo go lc fc gc cc bc oc k (zE u.code[k].op).1.toNat (zE u.code[k].op).2.1.toNat (zE u.code[k].op).2.2.toNat so co' go' sc cc' gc' wx (hui.below hx) ((HP.out.below HFW.out).below hx).code hcl hlt u.code[k] (hxb.below hx) hrl.1
    refine zzK5 cf cn cm cl ct fun CF CN CM CL CT=>?_;clear cf cn cm cl ct hrl hxb hui;by_cases hop:1<=u.code[k].op/\u.code[k].op<=40
    ·have hro:=zj1 hop wr (HRW.out.below HFW.out)
     have hok1:zfh u.code[k].op=true:=by unfold zfh;exact zzT hop
     rw [hok1]at HINS;clear hop hok1;generalize zB u.lits.length u.code[k] (zE u.code[k].op).1.toNat (zE u.code[k].op).2.1.toNat (zE u.code[k].op).2.2.toNat=b1 at *;generalize zbx u.code k u.code[k] (zE u.code[k].op).1.toNat=b5 at *;generalize zh u.funcs.length u.funs u.code[k]=b2 at *;generalize zbv u.code[k]=b3 at *;generalize zbF u.lits u.code[k]=b4 at *;generalize zeh u k u.code[k]=ib at *;generalize(zE u.code[k].op).1.toNat=h at *;generalize(zE u.code[k].op).2.1.toNat=l1 at *;generalize(zE u.code[k].op).2.2.toNat=l2 at *;generalize u.code[k].op=op at *;have hbad:ib=false->zbk u u.code 0=some k:=fun e=>by rw [HK.out,HST.out,e];rfl
     have hgood:ib=true->zbk u u.code 0=zbk u (u.code.drop (k+1)) (k+1):=fun e=>by rw [HK.out,HST.out,e];rfl
     have HBAD:=zzH hbad;have HGOOD:=zzH hgood;clear hbad hgood
     cases b1 with
     |false=>
      have hb:=HBAD.out (by rw [HINS.out];rfl);have E1:Hid (zci (f+1) u=k):=zzH (by rw [EI.out,hb]);have E2:Hid (zbN (f+1) u=6):=zzH (by rw [EE.out,hb]);clear hb;go_wp2_with fail;refine hro.mono ?_;rintro e w6 ⟨rfl,hb6⟩;have HW:=zzH (hb6.alloc hb6.size (.cells #[.int .i64 (h:Nat),.int .i64 (l1:Nat),.int .i64 (l2:Nat)] 97));have hR:=zzF w6 (.cells #[.int .i64 (h:Nat),.int .i64 (l1:Nat),.int .i64 (l2:Nat)] 97);have HR:=zzH hR;have HWW:=zzH (zzR (w6.alloc (.cells #[.int .i64 (h:Nat),.int .i64 (l1:Nat),.int .i64 (l2:Nat)] 97)).heap.size (w6.alloc (.cells #[.int .i64 (h:Nat),.int .i64 (l1:Nat),.int .i64 (l2:Nat)] 97)));clear hb6 hR;go_wp2_with fail;generalize w6.alloc (.cells #[.int .i64 (h:Nat),.int .i64 (l1:Nat),.int .i64 (l2:Nat)] 97)=W6 at *;generalize w6.heap.size=R at *;refine(CF.out _ HW.out).mono ?_;rintro e v0 ⟨rfl,hc0⟩;have HV0:=zzH (zd HW.out hc0);have HZ0:=zzH (zd HWW.out hc0);clear hc0;go_wp2;go_ret2;exact⟨zcQ E1.out.symm E2.out.symm,HFW.out.trans (HV0.out.mono HFW.out.size)⟩
     |true=>
      cases b2 with
      |false=>
       have hb:=HBAD.out (by rw [HINS.out];rfl);have E1:Hid (zci (f+1) u=k):=zzH (by rw [EI.out,hb]);have E2:Hid (zbN (f+1) u=6):=zzH (by rw [EE.out,hb]);clear hb;go_wp2_with fail;refine hro.mono ?_;rintro e w6 ⟨rfl,hb6⟩;have HW:=zzH (hb6.alloc hb6.size (.cells #[.int .i64 (h:Nat),.int .i64 (l1:Nat),.int .i64 (l2:Nat)] 97));have hR:=zzF w6 (.cells #[.int .i64 (h:Nat),.int .i64 (l1:Nat),.int .i64 (l2:Nat)] 97);have HR:=zzH hR;have HWW:=zzH (zzR (w6.alloc (.cells #[.int .i64 (h:Nat),.int .i64 (l1:Nat),.int .i64 (l2:Nat)] 97)).heap.size (w6.alloc (.cells #[.int .i64 (h:Nat),.int .i64 (l1:Nat),.int .i64 (l2:Nat)] 97)));clear hb6 hR;go_wp2_with fail;generalize w6.alloc (.cells #[.int .i64 (h:Nat),.int .i64 (l1:Nat),.int .i64 (l2:Nat)] 97)=W6 at *;generalize w6.heap.size=R at *;refine(CF.out _ HW.out).mono ?_;rintro e v0 ⟨rfl,hc0⟩;have HV0:=zzH (zd HW.out hc0);have HZ0:=zzH (zd HWW.out hc0);clear hc0;go_wp2_with fail;refine(CN.out _ HV0.out).mono ?_;rintro e v1 ⟨rfl,hc1⟩;have HV1:=zzH (zd HV0.out hc1);have HZ1:=zzH (zd HZ0.out hc1);clear hc1;go_wp2;go_ret2;exact⟨zcQ E1.out.symm E2.out.symm,HFW.out.trans (HV1.out.mono HFW.out.size)⟩
      |true=>
       cases b3 with
       |false=>
        have hb:=HBAD.out (by rw [HINS.out];rfl);have E1:Hid (zci (f+1) u=k):=zzH (by rw [EI.out,hb]);have E2:Hid (zbN (f+1) u=6):=zzH (by rw [EE.out,hb]);clear hb;go_wp2_with fail;refine hro.mono ?_;rintro e w6 ⟨rfl,hb6⟩;have HW:=zzH (hb6.alloc hb6.size (.cells #[.int .i64 (h:Nat),.int .i64 (l1:Nat),.int .i64 (l2:Nat)] 97));have hR:=zzF w6 (.cells #[.int .i64 (h:Nat),.int .i64 (l1:Nat),.int .i64 (l2:Nat)] 97);have HR:=zzH hR;have HWW:=zzH (zzR (w6.alloc (.cells #[.int .i64 (h:Nat),.int .i64 (l1:Nat),.int .i64 (l2:Nat)] 97)).heap.size (w6.alloc (.cells #[.int .i64 (h:Nat),.int .i64 (l1:Nat),.int .i64 (l2:Nat)] 97)));clear hb6 hR;go_wp2_with fail;generalize w6.alloc (.cells #[.int .i64 (h:Nat),.int .i64 (l1:Nat),.int .i64 (l2:Nat)] 97)=W6 at *;generalize w6.heap.size=R at *;refine(CF.out _ HW.out).mono ?_;rintro e v0 ⟨rfl,hc0⟩;have HV0:=zzH (zd HW.out hc0);have HZ0:=zzH (zd HWW.out hc0);clear hc0;go_wp2_with fail;refine(CN.out _ HV0.out).mono ?_;rintro e v1 ⟨rfl,hc1⟩;have HV1:=zzH (zd HV0.out hc1);have HZ1:=zzH (zd HZ0.out hc1);clear hc1;go_wp2_with fail;refine(CM.out _ HV1.out).mono ?_;rintro e v2 ⟨rfl,hc2⟩;have HV2:=zzH (zd HV1.out hc2);have HZ2:=zzH (zd HZ1.out hc2);clear hc2;go_wp2;go_ret2;exact⟨zcQ E1.out.symm E2.out.symm,HFW.out.trans (HV2.out.mono HFW.out.size)⟩
       |true=>
        cases b4 with
        |false=>
         have hb:=HBAD.out (by rw [HINS.out];rfl);have E1:Hid (zci (f+1) u=k):=zzH (by rw [EI.out,hb]);have E2:Hid (zbN (f+1) u=6):=zzH (by rw [EE.out,hb]);clear hb;go_wp2_with fail;refine hro.mono ?_;rintro e w6 ⟨rfl,hb6⟩;have HW:=zzH (hb6.alloc hb6.size (.cells #[.int .i64 (h:Nat),.int .i64 (l1:Nat),.int .i64 (l2:Nat)] 97));have hR:=zzF w6 (.cells #[.int .i64 (h:Nat),.int .i64 (l1:Nat),.int .i64 (l2:Nat)] 97);have HR:=zzH hR;have HWW:=zzH (zzR (w6.alloc (.cells #[.int .i64 (h:Nat),.int .i64 (l1:Nat),.int .i64 (l2:Nat)] 97)).heap.size (w6.alloc (.cells #[.int .i64 (h:Nat),.int .i64 (l1:Nat),.int .i64 (l2:Nat)] 97)));clear hb6 hR;go_wp2_with fail;generalize w6.alloc (.cells #[.int .i64 (h:Nat),.int .i64 (l1:Nat),.int .i64 (l2:Nat)] 97)=W6 at *;generalize w6.heap.size=R at *;refine(CF.out _ HW.out).mono ?_;rintro e v0 ⟨rfl,hc0⟩;have HV0:=zzH (zd HW.out hc0);have HZ0:=zzH (zd HWW.out hc0);clear hc0;go_wp2_with fail;refine(CN.out _ HV0.out).mono ?_;rintro e v1 ⟨rfl,hc1⟩;have HV1:=zzH (zd HV0.out hc1);have HZ1:=zzH (zd HZ0.out hc1);clear hc1;go_wp2_with fail;refine(CM.out _ HV1.out).mono ?_;rintro e v2 ⟨rfl,hc2⟩;have HV2:=zzH (zd HV1.out hc2);have HZ2:=zzH (zd HZ1.out hc2);clear hc2;go_wp2_with fail;refine(CL.out _ HV2.out).mono ?_;rintro e v3 ⟨rfl,hc3⟩;have HV3:=zzH (zd HV2.out hc3);have HZ3:=zzH (zd HZ2.out hc3);clear hc3;go_wp2;go_ret2;exact⟨zcQ E1.out.symm E2.out.symm,HFW.out.trans (HV3.out.mono HFW.out.size)⟩
        |true=>
         cases b5 with
         |false=>
          have hb:=HBAD.out (by rw [HINS.out];rfl);have E1:Hid (zci (f+1) u=k):=zzH (by rw [EI.out,hb]);have E2:Hid (zbN (f+1) u=6):=zzH (by rw [EE.out,hb]);clear hb;go_wp2_with fail;refine hro.mono ?_;rintro e w6 ⟨rfl,hb6⟩;have HW:=zzH (hb6.alloc hb6.size (.cells #[.int .i64 (h:Nat),.int .i64 (l1:Nat),.int .i64 (l2:Nat)] 97));have hR:=zzF w6 (.cells #[.int .i64 (h:Nat),.int .i64 (l1:Nat),.int .i64 (l2:Nat)] 97);have HR:=zzH hR;have HWW:=zzH (zzR (w6.alloc (.cells #[.int .i64 (h:Nat),.int .i64 (l1:Nat),.int .i64 (l2:Nat)] 97)).heap.size (w6.alloc (.cells #[.int .i64 (h:Nat),.int .i64 (l1:Nat),.int .i64 (l2:Nat)] 97)));clear hb6 hR;go_wp2_with fail;generalize w6.alloc (.cells #[.int .i64 (h:Nat),.int .i64 (l1:Nat),.int .i64 (l2:Nat)] 97)=W6 at *;generalize w6.heap.size=R at *;refine(CF.out _ HW.out).mono ?_;rintro e v0 ⟨rfl,hc0⟩;have HV0:=zzH (zd HW.out hc0);have HZ0:=zzH (zd HWW.out hc0);clear hc0;go_wp2_with fail;refine(CN.out _ HV0.out).mono ?_;rintro e v1 ⟨rfl,hc1⟩;have HV1:=zzH (zd HV0.out hc1);have HZ1:=zzH (zd HZ0.out hc1);clear hc1;go_wp2_with fail;refine(CM.out _ HV1.out).mono ?_;rintro e v2 ⟨rfl,hc2⟩;have HV2:=zzH (zd HV1.out hc2);have HZ2:=zzH (zd HZ1.out hc2);clear hc2;go_wp2_with fail;refine(CL.out _ HV2.out).mono ?_;rintro e v3 ⟨rfl,hc3⟩;have HV3:=zzH (zd HV2.out hc3);have HZ3:=zzH (zd HZ2.out hc3);clear hc3;have hrr:=(HZ3.out.block R (zb HR.out)).trans HR.out;obtain ⟨g0,g1,g2⟩:=zzc3 hrr;clear hrr;go_wp2_with fail;refine(CT.out _ HV3.out).mono ?_;rintro e v4 ⟨rfl,hc4⟩;have HV4:=zzH (zd HV3.out hc4);have HZ4:=zzH (zd HZ3.out hc4);clear hc4;go_wp2;go_ret2;exact⟨zcQ E1.out.symm E2.out.symm,HFW.out.trans (HV4.out.mono HFW.out.size)⟩
         |true=>
          have HNX:=zzH (HGOOD.out (by rw [HINS.out];rfl));go_wp2_with fail;refine hro.mono ?_;rintro e w6 ⟨rfl,hb6⟩;have HW:=zzH (hb6.alloc hb6.size (.cells #[.int .i64 (h:Nat),.int .i64 (l1:Nat),.int .i64 (l2:Nat)] 97));have hR:=zzF w6 (.cells #[.int .i64 (h:Nat),.int .i64 (l1:Nat),.int .i64 (l2:Nat)] 97);have HR:=zzH hR;have HWW:=zzH (zzR (w6.alloc (.cells #[.int .i64 (h:Nat),.int .i64 (l1:Nat),.int .i64 (l2:Nat)] 97)).heap.size (w6.alloc (.cells #[.int .i64 (h:Nat),.int .i64 (l1:Nat),.int .i64 (l2:Nat)] 97)));clear hb6 hR;go_wp2_with fail;generalize w6.alloc (.cells #[.int .i64 (h:Nat),.int .i64 (l1:Nat),.int .i64 (l2:Nat)] 97)=W6 at *;generalize w6.heap.size=R at *;refine(CF.out _ HW.out).mono ?_;rintro e v0 ⟨rfl,hc0⟩;have HV0:=zzH (zd HW.out hc0);have HZ0:=zzH (zd HWW.out hc0);clear hc0;go_wp2_with fail;refine(CN.out _ HV0.out).mono ?_;rintro e v1 ⟨rfl,hc1⟩;have HV1:=zzH (zd HV0.out hc1);have HZ1:=zzH (zd HZ0.out hc1);clear hc1;go_wp2_with fail;refine(CM.out _ HV1.out).mono ?_;rintro e v2 ⟨rfl,hc2⟩;have HV2:=zzH (zd HV1.out hc2);have HZ2:=zzH (zd HZ1.out hc2);clear hc2;go_wp2_with fail;refine(CL.out _ HV2.out).mono ?_;rintro e v3 ⟨rfl,hc3⟩;have HV3:=zzH (zd HV2.out hc3);have HZ3:=zzH (zd HZ2.out hc3);clear hc3;have hrr:=(HZ3.out.block R (zb HR.out)).trans HR.out;obtain ⟨g0,g1,g2⟩:=zzc3 hrr;clear hrr;go_wp2_with fail;refine(CT.out _ HV3.out).mono ?_;rintro e v4 ⟨rfl,hc4⟩;have HV4:=zzH (zd HV3.out hc4);have HZ4:=zzH (zd HZ3.out hc4);clear hc4;go_wp2_with fail;go_roundw
          case rel=>exact⟨k+1,by omega,by go_num,HNX,hBw.trans (HV4.out.mono hBw.size)⟩
          case measure=>simp [intOf];omega
    ·have hb:zbk u u.code 0=some k:=by rw [HK.out,HST.out,HINS.out];unfold zfh;rw [decide_eq_false hop];simp
     have E1:Hid (zci (f+1) u=k):=zzH (by rw [EI.out,hb]);have E2:Hid (zbN (f+1) u=6):=zzH (by rw [EE.out,hb]);have hro:=zkv u.code[k].op hop wr;clear hb hop;generalize u.code[k].op=op at *;go_wp2_with fail;refine hro.mono ?_;rintro e w6 ⟨rfl,hb6⟩;have HF:=zzH (HFW.out.trans (hb6.mono HFW.out.size));go_wp2;go_ret2;exact⟨zcQ E1.out.symm E2.out.symm,HF.out.alloc HF.out.size _⟩
   ·have E:Hid (zbk u u.code 0=none):=zzH (by rw [HK.out,zzq10 (by omega)];rfl)
    have E1:Hid (zci (f+1) u=0):=zzH (by rw [EI.out,E.out]);have E2:Hid (zbN (f+1) u=0):=zzH (by rw [EE.out,E.out]);have HF:Hid (Below w.heap.size w wr):=zzH (by rw [HBE.out];exact HB5.out.trans (hBw.mono hsz));go_wp2;go_ret2;exact⟨zcQ E1.out.symm E2.out.symm,HF.out⟩
theorem zbn {n a b:Int} (h:wi n a b=true):a<=n/\n<=b:=by
 unfold wi at h;rw [zzq6,zzq9,zzq9]at h;exact h
theorem zin: ∀k,(h:k<41)->(zj (rowT[k]'h).1.toNat 16=true->k=12)/\(zj (rowT[k]'h).1.toNat 8=true->k=13\/k=14\/k=15) /\
  (zj (rowT[k]'h).1.toNat 4=true->k=4\/k=5\/k=9\/k=15\/k=16\/k=17\/k=18\/k=19\/k=20\/k=21\/k=24\/k=31\/k=32\/k=33)/\(rowT[k]'h).2.2<=255:=by decide
theorem zhb {op:Int} (h:1<=op/\op<=40):(zj (zE op).1.toNat 16=true->op=12)/\(zj (zE op).1.toNat 8=true->op=13\/op=14\/op=15) /\
  (zj (zE op).1.toNat 4=true->op=4\/op=5\/op=9\/op=15\/op=16\/op=17\/op=18\/op=19\/op=20\/op=21\/op=24\/op=31\/op=32\/op=33)/\(zE op).2.2<=255:=by
 obtain⟨k,rfl⟩: ∃k:Nat,op=(k:Int):=⟨op.toNat,by omega⟩;have hk:k<41:=by omega
 have hra:zE (k:Int)=rowT[k]'hk:=by unfold zE;rw [zzq13,zzq4 (by exact hk)];rfl
 rw [hra];obtain⟨a,b,c,d⟩:=zin k hk;exact⟨fun h=>by have:=a h;omega,fun h=>by have:=b h;omega,fun h=>by have:=c h;omega,d⟩
structure TabOk (u:RUnit):Prop where
 mdl:u.mdl.size<=32
 vsn0:1<=u.vsn
 vsn1:u.vsn<=2147483647
 code0:1<=u.code.length
 code1:u.code.length<=524288
 lits:u.lits.length<=65535
 funcs:u.funcs.length<=200
 funs:u.funs.length<=1000
 func: ∀g∈u.funcs,g.name.size<=32/\0<=g.arity/\g.arity<=16/\0<=g.entry/\g.entry<=524288
 fn: ∀g∈u.funs,0<=g.arity/\g.arity<=16/\0<=g.free/\g.free<=200/\0<=g.entry/\g.entry<=524288
theorem zeV {s:ByteArray} (h:zy s=true):s.size<=32:=by
 unfold zy at h;rw [zzq6,zzq6,zzq9,zzq9]at h;exact h.1.2
theorem zlA {f:Nat} {u:RUnit} (h:zF f u=true):TabOk u:=by
 unfold zF zgU at h;simp only [zzq6,zzq9]at h;obtain⟨⟨h1,h2,h3,h4,h5,h6,h7,h8⟩,_,hf,hg⟩:=h;refine⟨zeV h1,h2,h3,by omega,by omega,h6,h7,h8,fun g hm=>?_,fun g hm=>?_⟩
 ·obtain⟨k,hk,rfl⟩:=List.getElem_of_mem hm
  have:=(zza hf k hk).1;unfold zdv at this;rw [zzq6,zzq6]at this;have a:=zbn this.2.1;have b:=zbn this.2.2;exact⟨zeV this.1,by omega,by omega,by omega,by omega⟩
 ·exact zz70
theorem zgg {u:RUnit}: ∀(l:List RIns) (i:Nat),zbk u l i=none-> ∀k (h:k<l.length),zeh u (i+k) l[k]=true
 |[],_,_,k,h=>absurd h (zzC _)
 |x::l,i,hb,k,h=>by
  unfold zbk at hb;split at hb
  ·rename_i e
   cases k with
   |zero=>exact e
   |succ k=>
    have:=zgg l (i+1) hb k (by simpa using h);rw [show i+(k+1)=i+1+k by omega];exact this
  ·cases hb
theorem zkr {f:Nat} {u:RUnit} (h:zbN f u=0):TabOk u/\zF f u=true/\ ∀k (hk:k<u.code.length),zeh u k u.code[k]=true:=by
 unfold zbN at h;split at h
 ·rename_i ht
  cases hb:zbk u u.code 0 with
  |some i=>rw [hb]at h;exact absurd (show(6:Int)=0 from h) (by decide)
  |none=>
   refine⟨zlA ht,ht,fun k hk=>?_⟩;have:=zgg u.code 0 hb k hk
   rwa [Nat.zero_add]at this
 ·exact absurd h (by decide)
theorem zgW {w:World}: ∀(f:Nat) (l:List Tm) (m:Int),(∀t∈l,∃cs,TmAt w f cs t)->0<=zbd f l m->((zR (l.map (zv f))+l.length:Nat):Int)<=301*(m-zbd f l m)
 |0,l,m,h,_=>by
  cases l with
  |nil=>show((0+0:Nat):Int)<=301*(m-m);omega
  |cons t l=>obtain⟨cs,hf⟩:=h t List.mem_cons_self;exact hf.elim
 |f+1,l,m,h,hp=>by
  have IH:=zgW (w:=w) f;show((zR (l.map (zv (f+1)))+l.length:Nat):Int)<=301*(m-zbO (zbd f) l m);have hp:0<=zbO (zbd f) l m:=hp
  induction l generalizing m with
  |nil=>show((0+0:Nat):Int)<=301*(m-m);omega
  |cons t l ih=>
   unfold zbO at hp ⊢;by_cases h0:m<0
   ·rw [if_pos h0]at hp;omega
   ·rw [if_neg h0]at hp ⊢
    by_cases h1:m<t.name.size\/m<t.func.size\/m<t.bytes.size
    ·rw [if_pos h1]at hp;omega
    ·rw [if_neg h1]at hp ⊢
     have hm1: -1<=m-1-(t.name.size:Int)/8-(t.func.size:Int)/8-(t.bytes.size:Int)/8:=by omega
     have hm2:m-1-(t.name.size:Int)/8-(t.func.size:Int)/8-(t.bytes.size:Int)/8<=m-1:=by omega
     generalize m-1-(t.name.size:Int)/8-(t.func.size:Int)/8-(t.bytes.size:Int)/8=m1 at *;have hle:=zdj f t.items m1 hm1;have hle2:=zeC (zdj f) l (zbd f t.items m1) hle.1;obtain⟨cs,⟨ao,c,_,hs⟩,_⟩:=h t List.mem_cons_self
     have hi:=IH t.items m1 (fun x hx=>by
      obtain⟨j,hj,rfl⟩:=List.getElem_of_mem hx;obtain⟨_,_,_,_,hr⟩:=hs.row hj;obtain⟨cs',_,_,h'⟩:=hr j hj;exact⟨cs',h'⟩) (by omega)
     have hl:=ih (zbd f t.items m1) (fun x hx=>h x (zzh _ hx)) (by simpa [zbd] using hp) hp;have e1:zR ((t::l).map (zv (f+1)))=(300+t.items.length+zR (t.items.map (zv f)))+zR (l.map (zv (f+1))):=rfl;rw [e1,List.length_cons];omega
theorem zgf: ∀(l:List Nat) (x:Nat),x∈l->x<=zR l
 |[],_,h=>by cases h
 |y::l,x,h=>by
  show x<=y+zR l;rcases List.mem_cons.1 h with rfl|h
  ·omega
  ·have:=zgf l x h;omega
def zzLQ (w:World) (f:Nat) (u:RUnit) (e:Ending) (w':World):Prop:= ∃b,e= .returned (.bool b)/\Below w.heap.size w w'/\(b=false->0<=zbd f u.lits 3000)
theorem zjO (f:Nat) (u:RUnit) (lo fo go co:zzA) (lc fc gc cc:Nat) (w:World) (h:UP w u lo fo go co) (hf:SlAt w 9 (TmAt w f) lo u.lits):
  Calls Tryz.prog 9 #[.agg (zzu u lo lc fo fc go gc co cc)] w (zzLQ w f u):=by
 unfold zzu;have HF:=zzH hf;have HU:=zzH h;clear hf;have r1:=h.litsLen;have r2:=h.funcsLen;have r3:=h.funsLen;have r4:=h.codeLen;clear h;go_in;go_wp2_with fail;have hbx:=zeJ w u lo fo go co lc fc gc cc;have hba:Below w.heap.size w (w.alloc (.cells (zzu u lo lc fo fc go gc co cc) 27)):=zzE _ _;generalize w.alloc (.cells (zzu u lo lc fo fc go gc co cc) 27)=Wa at *;have HUa:=zzH (HU.out.below hba);have HBA:=zzH hba;generalize w.heap.size=B at hbx ⊢;have HBX:=zzH hbx;clear hbx hba;go_loopw [3,4] (fun nv iv wr=> ∃(k:Nat) (z:Int),k<=u.code.length/\iv= .int .i64 k/\nv= .int .i64 z/\Below Wa.heap.size Wa wr) (fun _ iv _=>u.code.length-(intOf iv).toNat)
 case atStart=>exact⟨0,_,zzZ _,rfl,rfl,zzR _ _⟩
 case round=>
  obtain⟨k,z,hk,rfl,rfl,hB⟩:=hrel;rename World=>wr
  have hbw:=HBX.out.below hB;have b2:=hbw.c2;have b3:=hbw.c3;have b4:=hbw.c4;have b5:=hbw.c5;clear hbw;by_cases hlt:k<u.code.length
  ·obtain⟨b,off,so,sc,co',cc',go',gc',hao,hb,q0,q1,q2,q3,q4,q5,q6,q7,q8,q9,_,_,_,_,_,_,s1,_,_,_,_,s2,s3⟩:=(HUa.out.below hB).code.ins hlt
   subst hao;unfold maxLen at s1 s2 s3;generalize u.code[k]=x at *;by_cases h24:x.op=24
   ·by_cases h0:0<x.n
    ·exact zz71
    ·exact zz71
   ·exact zz71
  ·by_cases c1:1500<z
   ·exact zz72
   ·by_cases c2:200<u.lits.length
    ·exact zz72
    ·have hd4:decide ((200:Int)<(u.lits.length:Int))=false:=zzD (by omega)
     have hG:=ziP f lo lc u.lits 3000 wr ((HF.out.tms HBA.out).tms hB) (by unfold maxLen;omega) (by decide) (by decide);have HD:Hid (decide (zbd f u.lits 3000<0)=false->0<=zbd f u.lits 3000):=zzH (fun e=>by have:=of_decide_eq_false e;omega);generalize decide (zbd f u.lits 3000<0)=q at *;go_wp2_with fail;refine hG.mono ?_;rintro e w5 ⟨rfl,hb5⟩;go_wp2;go_ret;exact⟨q,rfl,HBA.out.trans ((hB.mono HBA.out.size).trans (hb5.mono (zzY HBA.out.size hB.size))),fun e=>HD.out e⟩
structure VIns (u:RUnit) (i:Nat) (x:RIns):Prop where
 op:1<=x.op/\x.op<=40
 jump:JumpOk u.code.length i x
 opd: ∀s,OpdOk u s x
 srcs: ∀s,x.op=1\/x.op=5\/x.op=6\/x.op=7\/x.op=9\/x.op=10->0<x.src.length/\ArgOk u s (zQ x)
 n5:x.op=5->0<=x.n/\x.n<=254
 n9:x.op=9->0<=x.n/\x.n<=255
 n24:x.op=24->1<=x.n/\x.n<=8192
 t28:x.op=28->0<=x.to/\x.to<u.code.length
 dstx:x.dst.kind=1->0<=x.dst.n/\x.dst.n<=255
 dsty:x.dst.kind=2->0<=x.dst.n/\x.dst.n<=8191
 dst:x.dst.kind=0\/x.dst.kind=1\/x.dst.kind=2
 dst0:x.dst.kind=0↔zj (zE x.op).1.toNat 1=false
 live:0<=x.live/\x.live<=256
 srcLen:x.src.length<=255
 casesLen:x.cases.length<=1000
 segsLen:x.segs.length<=60
theorem zfk {u:RUnit} {a:RArg} (hl:u.lits.length<=65535) (h:zbH u.lits.length a=true) (s:VSt):ArgOk u s a:=by
 unfold zbH at h;split at h
 ·have:=zbn h;exact⟨fun _=>this,fun e=>by omega,fun e=>by omega,by unfold I64;omega⟩
 ·split at h
  ·have:=zbn h;exact⟨fun e=>by omega,fun _=>this,fun _ e=>by omega,by unfold I64;omega⟩
  ·split at h
   ·have:=zbn h;exact⟨fun e=>by omega,fun e=>by omega,fun _ _=>by omega,by unfold I64;omega⟩
   ·cases h
theorem zlL: ∀k:Nat,(h:k<41)->0<k->(zj (rowT[k]'h).1.toNat 64=true↔toB (k:Int)=true\/k=28)/\(zj (rowT[k]'h).1.toNat 128=true↔zcu (k:Int)=true) /\
  (k=1\/k=5\/k=6\/k=7\/k=9\/k=10->0<(rowT[k]'h).2.1):=by decide
theorem zlk {op:Int} (h:1<=op/\op<=40):(zj (zE op).1.toNat 64=true↔toB op=true\/op=28)/\(zj (zE op).1.toNat 128=true↔zcu op=true)/\(op=1\/op=5\/op=6\/op=7\/op=9\/op=10->0<(zE op).2.1):=by
 obtain⟨k,rfl⟩: ∃k:Nat,op=(k:Int):=⟨op.toNat,by omega⟩;have hk:k<41:=by omega
 have hra:zE (k:Int)=rowT[k]'hk:=by unfold zE;rw [zzq13,zzq4 (by exact hk)];rfl
 rw [hra];obtain⟨a,b,c⟩:=zlL k hk (by omega);exact⟨a.trans ⟨fun h=>h.imp id fun h=>by omega,fun h=>h.imp id fun h=>by omega⟩,b,fun h=>c (by omega)⟩
theorem zjg {nf:Nat} {funs:List RFun} {x:RIns} (h:zh nf funs x=true):(x.op=5->0<=x.n/\x.n<=254)/\(x.op=9->0<=x.n/\x.n<=255)/\(x.op=16\/x.op=17->0<=x.n/\x.n<nf) /\
  (x.op=15\/x.op=18\/x.op=19\/x.op=20\/x.op=21->0<=x.n/\x.n<=16)/\(x.op=24->1<=x.n/\x.n<=8192):=by
 unfold zh at h;split at h
 ·omega
 ·split at h
  ·have:=zbn h;omega
  ·split at h
   ·have:=zbn h;omega
   ·split at h
    ·have:=zbn h;omega
    ·split at h
     ·have:=zbn h;omega
     ·split at h
      ·have:=zbn h;omega
      ·omega
theorem zla {u:RUnit} {i:Nat} {x:RIns} (ht:TabOk u) (h:zeh u i x=true):VIns u i x:=by
 unfold zeh at h;simp only [zzq6]at h;obtain⟨h0,h1,h2,h3,h4,h5⟩:=h;have hop:1<=x.op/\x.op<=40:=by unfold zfh at h0;exact zza h0
 obtain⟨r16,r8,r4,rhi⟩:=zhb hop;obtain⟨v64,v128,vlo⟩:=zlk hop;have hlo:((zE x.op).2.1.toNat:Int)<=x.src.length->x.op=1\/x.op=5\/x.op=6\/x.op=7\/x.op=9\/x.op=10->0<x.src.length:=fun a b=>by have:=vlo b;omega
 generalize hh:(zE x.op).1.toNat=hb at *;unfold zB at h1;simp only [zzq6]at h1;obtain⟨f1,f2,f3,f4,f5,f6,f7,f8,f9,f10⟩:=h1;have w3:=zbn f3;have w4:=zbn f4;have hlit:=ht.lits;have hcode:=ht.code1;unfold zbF at h4;simp only [zzq6,zzq9]at h4;obtain⟨⟨g1,g2⟩,g3,g4⟩:=h4;obtain⟨n5,n9,n16,n15,n24⟩:=zjg h2
 have hargs:0<=zbz u x/\zbz u x<=1000:=by
  unfold zbz;split
  ·rename_i e;have:=n15 e;omega
  ·split
   ·rename_i e
    have:=n16 e;have hlt:x.n.toNat<u.funcs.length:=by omega
    rw [zzq4 hlt];have:=ht.func _ (zzM hlt);show 0<=(u.funcs[x.n.toNat]).arity/\(u.funcs[x.n.toNat]).arity<=1000;omega
   ·split<;>omega
 have hsrc: ∀s,∀a∈x.src,ArgOk u s a:=fun s a ha=>zfk hlit (zzp.1 f2 a ha) s
 have hdst:(x.dst.kind=1->0<=x.dst.n/\x.dst.n<=255)/\(x.dst.kind=2->0<=x.dst.n/\x.dst.n<=8191)/\(x.dst.kind=0\/x.dst.kind=1\/x.dst.kind=2)/\(x.dst.kind=0↔zj hb 1=false):=by
  unfold zdg at f1;split at f1
  ·rename_i e
   rw [zzq6]at f1;obtain⟨f1,f1'⟩:=f1;have h3:x.dst.kind≠3:=by simpa using f1
   unfold zbH at f1';split at f1'
   ·have:=zbn f1';exact⟨fun _=>this,fun _=>by omega,by omega,⟨fun _=>by omega,fun h=>by rw [e]at h;cases h⟩⟩
   ·split at f1'
    ·have:=zbn f1';exact⟨fun _=>by omega,fun _=>this,by omega,⟨fun _=>by omega,fun h=>by rw [e]at h;cases h⟩⟩
    ·simp [h3]at f1'
  ·rename_i e
   rw [zzq6]at f1;have:=zza f1.1;exact⟨by omega,by omega,by omega,⟨fun _=>by simpa using e,fun _=>this⟩⟩
 have hsel:x.cases≠ []->x.op=12:=fun hne=>r16 (by
  cases e:zj hb 16 with
  |true=>rfl
  |false=>
   rw [e,zzq8]at f9;exact absurd (List.length_eq_zero_iff.1 (eq_of_beq f9)) hne)
 have hjump:JumpOk u.code.length i x/\(x.op=28->0<=x.to/\x.to<u.code.length):=by
  unfold zbx at h5;by_cases ho:x.op=39\/x.op=40
  ·rw [if_pos ho,zzq6]at h5
   have hw:=zbn h5.1;refine⟨⟨fun c hc=>?_,hsel,fun _=>by omega,fun _=>by omega,fun h=>?_⟩,fun _=>by omega⟩
   ·have:=hsel (fun e=>by rw [e]at hc;cases hc);omega
   ·rcases ho with e|e<;>rw [e]at h<;>exact absurd h (by decide)
  ·rw [if_neg ho,zzq6]at h5
   have hto:zj hb 64=true->(i:Int)<x.to/\x.to<u.code.length:=fun e=>by
    have:=h5.2;rw [e]at this;have:=zbn (show wi x.to ((i:Int)+1) ((u.code.length:Int)-1)=true from this);omega
   refine⟨⟨fun c hc=>?_,hsel,fun h=>?_,fun h _ _=>(hto (v64.2 (.inl h))).1,fun h h28=>?_⟩,fun e=>?_⟩
   ·have:=zbn (zzp.1 h5.1 c hc);omega
   ·have:=hto (v64.2 (.inl h));omega
   ·cases e:zj hb 64 with
    |false=>rw [e,zzq8]at f7;exact eq_of_beq f7
    |true=>
     rcases v64.1 e with e'|e'
     ·rw [h]at e';cases e'
     ·exact absurd e' h28
   ·have:=hto (v64.2 (.inr e));omega
 refine⟨hop,hjump.1,fun s=>⟨hsrc s,fun g hg=>?_,fun g hg hz=>?_,n16,hargs,by omega,by omega⟩,fun s e=>?_,n5,n9,n24,hjump.2,hdst.1,hdst.2.1,hdst.2.2.1,by rw [hh];exact hdst.2.2.2,by omega,by omega,?_,by omega⟩
 ·have:=zzp.1 g4 g hg
  unfold zbU at this;simp only [zzq6]at this;exact zfk hlit this.2.1 s
 ·have:=zzp.1 g4 g hg
  unfold zbU at this;simp only [zzq6,Bool.or_eq_true,zzq9]at this;rcases this.2.2.1 with h|h
  ·exact absurd h hz
  ·exact zfk hlit h s
 ·have hl:=hlo w3.1 e
  refine⟨hl,?_⟩
  have:zQ x=x.src[0]:=by
   unfold zQ;rw [List.headD_eq_head?_getD,List.head?_eq_getElem?,zzq4 hl];rfl
  rw [this];exact hsrc s _ (zzM hl)
 ·by_cases e:x.op=12
  ·rw [e]at g1
   have:=zbn (show wi x.cases.length 1 1000=true from by simpa using g1);omega
  ·have:x.cases= []:=Classical.byContradiction fun hne=>e (hsel hne)
   rw [this];exact zzZ _
structure SInv (n i:Nat) (s:VSt):Prop where
 fr: -1<=s.frame/\s.frame<=8192
 y:s.y.length=s.frame.toNat
 x:s.x.length<=256
 tx:zt s.x=s.x
 t:s.tries.length<=i
 tr: ∀a∈s.tries,0<=a/\a<n
theorem SInv.mono {n i j:Nat} {s:VSt} (h:SInv n i s) (hij:i<=j):SInv n j s:=⟨h.fr,h.y,h.x,h.tx,zzY h.t hij,h.tr⟩
theorem SInv.ok {n i:Nat} {s:VSt} (h:SInv n i s) (hi:i<=1000000):StOk s:=
 ⟨⟨zzY h.x (by decide),by have:=h.y;have:=h.fr;omega,zzY h.t hi⟩,fun _=>h.y,h.fr⟩
theorem zgv (l:List Int):(zt l).length<=l.length:=by unfold zt;rw [List.length_take];omega
theorem zfW (l:List Int):zt (zt l)=zt l:=zg1 (zfG l)
theorem SInv.setX {n i:Nat} {s:VSt} (h:SInv n i s) {l:List Int} (hl:l.length<=256) (m:Bool) (r:Int):SInv n i {s with x:=zt l,mt:=m,recv:=r}:=
 ⟨h.fr,h.y,zzY (zgv l) hl,zfW l,h.t,h.tr⟩
theorem zeo {n i:Nat} {s:VSt} (h:SInv n i s) (x:RIns):SInv n i (zX s x):=by
 unfold zX;split
 ·exact h.setX (zzY (List.length_take_le' _ _) h.x) _ _
 ·exact h
theorem zfp {n i:Nat} {s:VSt} (h:SInv n i s) (a:RArg) (t:Int) (h1:a.kind=1->0<=a.n/\a.n<=255):SInv n i (zch s a t):=by
 unfold zch;split
 ·rename_i k
  refine h.setX ?_ _ _;unfold zcH;rw [List.length_set,zzq16,List.length_replicate];have:=h1 k;have:=h.x;omega
 ·split
  ·exact⟨h.fr,by show(s.y.set _ _).length=_;rw [List.length_set];exact h.y,h.x,h.tx,h.t,h.tr⟩
  ·exact h
theorem zgB:zt [1]= [1]:=by decide
theorem zfZ {n i:Nat} {s:VSt} (h:SInv n i s):SInv n i (zda s):=⟨h.fr,h.y,by show([1]:List Int).length<=256;decide,zgB,h.t,h.tr⟩
theorem zgK {n i:Nat} {s:VSt} (h:SInv n i s):SInv n i (zdO s):=⟨h.fr,by show(List.replicate s.y.length 1).length=_;rw [List.length_replicate];exact h.y,(zfZ h).x,zgB,h.t,h.tr⟩
theorem zkl {u:RUnit} {i:Nat} {s:VSt} {x:RIns} (hs:SInv u.code.length i s) (hx:VIns u i x) (hi:i<u.code.length):SInv u.code.length (i+1) (zc5 u i s x):=by
 have hc:=zeo hs x
 have hn:SInv u.code.length i (if x.dst.kind≠0 then zch (zX s x) x.dst (zck u s x)else zX s x):=by
  split
  ·exact zfp hc _ _ hx.dstx
  ·exact hc
 have hm:=fun{t:VSt} (h:SInv u.code.length i t)=>h.mono (Nat.le_succ i)
 unfold zc5;simp only;generalize(if x.dst.kind≠0 then zch (zX s x) x.dst (zck u s x)else zX s x)=N at *;generalize zX s x=C at *;split
 ·rename_i h9;exact hm (zfp hc _ _ ((hx.srcs s (by omega)).2.x))
 ·split
  ·rename_i h9;exact hm (zfp hc _ _ ((hx.srcs s (by omega)).2.x))
  ·split
   ·exact hm (zfZ hc)
   ·split
    ·exact hm (zgK hc)
    ·split
     ·rename_i h24
      have:=hx.n24 h24;exact hm ⟨by show -1<=x.n/\x.n<=8192;omega,by show(zbC x.n).length=x.n.toNat;unfold zbC;rw [List.length_replicate],hn.x,hn.tx,hn.t,hn.tr⟩
     ·split
      ·exact hm ⟨by show(-1:Int)<= -1/\(-1:Int)<=8192;omega,rfl,hn.x,hn.tx,hn.t,hn.tr⟩
      ·split
       ·rename_i h28
        refine⟨hn.fr,hn.y,hn.x,hn.tx,?_,?_⟩
        ·show(C.tries++ [x.to]).length<=i+1
         rw [zzq16];have:=hc.t;simp;omega
        ·intro a ha
         rcases List.mem_append.1 ha with ha|ha
         ·exact hc.tr a ha
         ·rw [List.mem_singleton.1 ha];exact hx.t28 h28
       ·split
        ·refine⟨hn.fr,hn.y,hn.x,hn.tx,?_,fun a ha=>hc.tr a (List.mem_of_mem_take ha)⟩
         show(C.tries.take _).length<=i+1;have:=hc.t;rw [List.length_take];omega
        ·split
         ·exact hm ⟨hn.fr,hn.y,hn.x,hn.tx,hn.t,hn.tr⟩
         ·split
          ·exact hm ⟨hn.fr,hn.y,hn.x,hn.tx,hn.t,hn.tr⟩
          ·split
           ·exact hm ⟨hn.fr,hn.y,hn.x,hn.tx,hn.t,hn.tr⟩
           ·exact hm hn
theorem zjq {n i:Nat} {s:VSt} (h:SInv n i s) (x:RIns):SInv n i (toV s x):=by
 unfold toV;split
 ·have hp:=zgK (zeo h x)
  exact⟨hp.fr,hp.y,zzZ _,rfl,hp.t,hp.tr⟩
 ·split
  ·have hp:=zeo h x
   exact⟨hp.fr,hp.y,hp.x,hp.tx,hp.t,hp.tr⟩
  ·exact zeo h x
theorem zkJ:zt [1,1]= [1,1]:=by decide
theorem zkb {n i:Nat} {s:VSt} (h:SInv n i s):SInv n i (zc7 s):=
 ⟨h.fr,h.y,by show([1,1]:List Int).length<=256;decide,zkJ,by show(s.tries.take _).length<=i;have:=h.t;rw [List.length_take];omega,fun a ha=>h.tr a (List.mem_of_mem_take ha)⟩
theorem zjn {n j:Nat} (h:j<n):(List.replicate n (1:Int)).getD j 0=1:=by
 rw [List.getD_eq_getElem?_getD,List.getElem?_replicate,if_pos h];rfl
theorem zja (n:Nat):zt (List.replicate n (1:Int))=List.replicate n 1:=by
 unfold zt
 cases n with
 |zero=>rfl
 |succ n=>
  have:zbl (List.replicate (n+1) (1:Int)) (List.replicate (n+1) (1:Int)).length=n+1:=by
   rw [List.length_replicate,zbl,if_neg (by rw [zjn (Nat.lt_succ_self n)];decide)]
  rw [this,List.take_of_length_le (by simp)]
theorem zfI {n:Nat} {a:Int} (h:a<=256):SInv n 0 (zcr a):=
 ⟨by show(-1:Int)<= -1/\(-1:Int)<=8192;omega,rfl,by show(zbC a).length<=256;unfold zbC;rw [List.length_replicate];omega,zja _,zzL _,fun _ h=>by cases h⟩
theorem zkD {n i:Nat} {a b:VSt} (ha:SInv n i a) (hb:SInv n i b) (hf:a.frame=b.frame):SInv n i (zbu a b):=by
 have hy:(zH a.y b.y).length=a.frame.toNat:=by rw [zcP,ha.y,hb.y,<-hf];omega
 refine⟨ha.fr,hy,?_,zfW _,ha.t,ha.tr⟩;show(zt (zH a.x b.x)).length<=256;have h1:=zgv (zH a.x b.x);have h2:=zcP a.x b.x;have:=ha.x;omega
structure MInv (n i N:Nat) (m:VM):Prop where
 st:SInv n i m.st
 all: ∀t∈m.all,SInv n i t
 ne:m.all≠ []
 fr:m.wrong=0-> ∀t∈m.all,t.frame=m.st.frame
 wr:zfs m.wrong
 num:m.all.length<=N
theorem MInv.mono {n i j N N':Nat} {m:VM} (h:MInv n i N m) (hij:i<=j) (hN:N<=N'):MInv n j N' m:=⟨h.st.mono hij,fun t ht=>(h.all t ht).mono hij,h.ne,h.fr,h.wr,zzY h.num hN⟩
theorem zfC (s:VSt): ∀(l:List VSt) (w:Int),zfs w->zfs (zn s l w)
 |[],_,h=>h
 |t::l,w,h=>zfC s l _ (zjh s t h)
theorem zeZ {s:VSt} {m:VM} (h:zn s m.all m.wrong=0):m.wrong=0/\ ∀t∈m.all,zJ s t=0:=by
 obtain⟨h1,h2⟩:=zdG (s:=s) m.all m.wrong;refine⟨?_,fun t ht=>(h2 t ht).elim id fun h3=>absurd h h3.1⟩;by_cases c:m.wrong=0
 ·exact c
 ·exact absurd h (h1 c).1
theorem MInv.frame {n i N:Nat} {m:VM} {s:VSt} (h:MInv n i N m) (hw:zn s m.all m.wrong=0):m.st.frame=s.frame:=by
 obtain⟨h1,h2⟩:=zeZ hw;obtain⟨t,l,e⟩:=List.exists_cons_of_ne_nil h.ne;have ht:t∈m.all:=by rw [e];exact List.mem_cons_self ..
 have h3:=(clash_zero.1 (h2 t ht)).1;rw [h3,h.fr h1 t ht]
theorem zlu {n i N:Nat} {mo:Option VM} {s:VSt} {m':VM} (h: ∀m,mo=some m->MInv n i N m) (hs:SInv n i s) (he:zcJ mo s=some m'):MInv n i (N+1) m':=by
 cases mo with
 |none=>
  have he:some (VM.mk s [s] 0)=some m':=he;injection he with he;subst he;exact⟨hs,fun t ht=>by rw [List.mem_singleton.1 ht];exact hs,by simp,fun _ t ht=>by rw [List.mem_singleton.1 ht],.inl rfl,by simp⟩
 |some m=>
  have hm:=h m rfl;have he:some (VM.mk (if zn s m.all m.wrong=0 then zbu m.st s else m.st) (if zP s m.all=true then m.all else m.all++ [s]) (zn s m.all m.wrong))=some m':=he;injection he with he;subst he
  have hall: ∀t∈(if zP s m.all=true then m.all else m.all++ [s]),t∈m.all\/t=s:=fun t ht=>by
   split at ht
   ·exact .inl ht
   ·rcases List.mem_append.1 ht with ht|ht
    ·exact .inl ht
    ·exact .inr (zzP.1 ht)
  refine⟨?_,fun t ht=>(hall t ht).elim (hm.all t) fun e=>by rw [e];exact hs,?_,fun hw t ht=>?_,zfC _ _ _ hm.wr,?_⟩
  ·show SInv n i (if zn s m.all m.wrong=0 then zbu m.st s else m.st)
   split
   ·rename_i hw;exact zkD hm.st hs (hm.frame hw)
   ·exact hm.st
  ·show(if zP s m.all=true then m.all else m.all++ [s])≠ []
   split
   ·exact hm.ne
   ·simp
  ·have hw:zn s m.all m.wrong=0:=hw
   show t.frame=(if zn s m.all m.wrong=0 then zbu m.st s else m.st).frame;rw [if_pos hw];show t.frame=m.st.frame;rcases hall t ht with h1|h1
   ·exact hm.fr (zeZ hw).1 t h1
   ·rw [h1,hm.frame hw]
  ·show(if zP s m.all=true then m.all else m.all++ [s]).length<=N+1
   have:=hm.num;split
   ·omega
   ·simp;omega
theorem zez {s:VSt}: ∀{l:List RArg},zV s l=0-> ∀a∈l,zbG s a=0
 |[],_,a,h=>by cases h
 |b::l,h,a,ha=>by
  rw [zV]at h;by_cases c:zbG s b=0
  ·rw [if_neg (by simp [c])]at h
   rcases List.mem_cons.1 ha with rfl|ha
   ·exact c
   ·exact zez h a ha
  ·rw [if_pos c]at h;exact absurd h c
theorem zlV {u:RUnit} {i:Nat} {s:VSt} {x:RIns} (hs:SInv u.code.length i s) (hx:VIns u i x) (hc:zcw u i s x=0):EffOk u s x:=by
 have h1:zcj u s x=0:=zdr hc _ (by simp);have h2:zcT i s x=0:=zgz hc;unfold zcj at h1;by_cases c:zV s (ze9 u x)=0
 ·rw [if_neg (by simp [c])]at h1
  have hd: ¬(x.dst.kind=2/\s.frame<=x.dst.n):=fun h=>by rw [if_pos h]at h1;exact absurd h1 (by decide)
  have hk:=zez c;refine⟨fun e=>hx.srcs s (by omega),fun e=>?_,zzY hx.srcLen (by decide),hx.dstx,fun e=>?_,hx.live,hx.n9,hx.n24,fun e hn=>?_⟩
  ·obtain⟨a,b⟩:=hx.srcs s (by omega)
   refine⟨a,b.x,fun e2=>?_⟩
   have hm:zQ x∈ze9 u x:=by
    refine List.mem_append_left _ ?_;unfold zQ;rw [List.headD_eq_head?_getD,List.head?_eq_getElem?,zzq4 a];exact zzM a
   have h3:=hk _ hm;unfold zbG at h3;rw [if_neg (by omega),if_pos e2]at h3;have h4: ¬s.frame<=(zQ x).n:=fun h=>by rw [if_pos h]at h3;exact absurd h3 (by decide)
   have:=b.y e2;have:=hs.y;omega
  ·have:=hx.dsty e;have:=hs.y
   have: ¬s.frame<=x.dst.n:=fun h=>hd ⟨e,h⟩
   omega
  ·unfold zcT at h2
   rw [hn,if_pos (show([]:List Int).length=0 from rfl),if_pos e]at h2;exact absurd h2 (by decide)
 ·rw [if_pos c]at h1;exact absurd h1 c
def AInv (n i N:Nat) (M:Nat->Option VM):Prop:= ∀j m,M j=some m->MInv n i N m
theorem AInv.mono {n i j N N':Nat} {M:Nat->Option VM} (h:AInv n i N M) (hij:i<=j) (hN:N<=N'):AInv n j N' M:=fun k m e=>(h k m e).mono hij hN
theorem zkt {n i N:Nat} {M:Nat->Option VM} (h:AInv n i N M) {p:Nat × VSt} (hs:SInv n i p.2):AInv n i (N+1) (zC M p):=by
 intro j m e;unfold zC at e;split at e
 ·exact zlu (fun m' e'=>h j m' e') hs e
 ·exact(h j m e).mono (zzL _) (Nat.le_succ _)
theorem AInv.nil (n i N:Nat):AInv n i N (fun _=>none):=fun _ _ e=>by cases e
structure VEnv (w0 w:World) (E U mb:Nat) (at':Int) (u:RUnit) (lo fo go co:Option Addr) (lc fc gc cc mc:Nat):Prop where
 ex:w.heap[E]?=some (.cells #[.pointer (some ⟨U,0,none⟩),.slice (some ⟨mb,0,none⟩) u.code.length mc,.int .i64 at'] 89 (0,0))
 bx:UBox w0 U u lo fo go co lc fc gc cc
 up:UP w0 u lo fo go co
 bl:Below w0.heap.size w0 w
 le:w0.heap.size<=mb
section
variable {w0 w w':World} {E U mb:Nat} {at':Int} {u:RUnit} {lo fo go co:Option Addr} {lc fc gc cc mc:Nat}
theorem VEnv.cx (h:VEnv w0 w E U mb at' u lo fo go co lc fc gc cc mc):VCx w E U mb at' u lo fo go co lc fc gc cc mc:=⟨h.ex,h.bx.below h.bl,h.up.below h.bl⟩
theorem VEnv.below (h:VEnv w0 w E U mb at' u lo fo go co lc fc gc cc mc) (hb:Below w.heap.size w w'):VEnv w0 w' E U mb at' u lo fo go co lc fc gc cc mc:=
 ⟨(hb.block E (zb h.ex)).trans h.ex,h.bx,h.up,h.bl.trans (hb.mono h.bl.size),h.le⟩
theorem VEnv.add (h:VEnv w0 w E U mb at' u lo fo go co lc fc gc cc mc) (k:KeepT w w') (b:Below mb w w'):VEnv w0 w' E U mb at' u lo fo go co lc fc gc cc mc:=
 ⟨k.2 E _ _ _ h.ex (by decide) (by decide),h.bx,h.up,h.bl.trans (b.mono h.le),h.le⟩
end
def AddK (mb:Nat) (w w':World):Prop:=KeepT w w'/\Below mb w w'
theorem AddK.refl (mb:Nat) (w:World):AddK mb w w:=⟨.refl _,zzR _ _⟩
theorem AddK.trans {mb:Nat} {a b c:World} (h:AddK mb a b) (k:AddK mb b c):AddK mb a c:=⟨h.1.trans k.1,h.2.trans k.2⟩
theorem AddK.below {mb:Nat} {w w':World} (hm:mb<=w.heap.size) (h:Below w.heap.size w w'):AddK mb w w':=⟨.below h,h.mono hm⟩
theorem MeetAt.below {w w':World} {mb len:Nat} {M:Nat->Option VM} {cs:Array Value} {g:Nat->Nat} (h:MeetAt w mb len M cs g) (hb:Below w.heap.size w w'):MeetAt w' mb len M cs g:=
 ⟨(hb.block mb (zb h.row)).trans h.row,h.size,h.inj,fun k hk=>by
  obtain⟨pv,av,wv,f0,f1,f2,h1⟩:=h.one k hk;exact⟨pv,av,wv,f0,f1,f2,h1.stay (.below hb) fun hn=>hb.block _ (h.lt hk hn).2⟩⟩
theorem MeetAt.mb {w:World} {mb len:Nat} {M:Nat->Option VM} {cs:Array Value} {g:Nat->Nat} (h:MeetAt w mb len M cs g):mb<w.heap.size:=zb h.row
theorem zkR {n i N k:Nat} {M:Nat->Option VM} {s:VSt} (h:AInv n i N M) (hs:SInv n i s) (hi:i<=1000000) (hN:N<=1000000000000):AddOk (M k) s:=
 ⟨fun m e=>((h k m e).st.ok hi).len,fun m e t ht=>(((h k m e).all t ht).ok hi).len,fun m e=>zzY (h k m e).num hN,fun m e hw=>by rw [(h k m e).st.y,hs.y,(h k m e).frame hw],fun m e=>(h k m e).wr⟩
def MeetI (w:World) (mb n i N:Nat) (M:Nat->Option VM):Prop:=(∃cs g,MeetAt w mb n M cs g)/\AInv n i N M
theorem MeetI.below {w w':World} {mb n i N:Nat} {M:Nat->Option VM} (h:MeetI w mb n i N M) (hb:Below w.heap.size w w'):MeetI w' mb n i N M:=
 ⟨h.1.elim fun cs h=>h.elim fun g h=>⟨cs,g,h.below hb⟩,h.2⟩
theorem MeetI.mb {w:World} {mb n i N:Nat} {M:Nat->Option VM} (h:MeetI w mb n i N M):mb<w.heap.size:=by
 obtain⟨⟨cs,g,h⟩,-⟩:=h;exact h.mb
theorem MeetI.mono {w:World} {mb n i j N N':Nat} {M:Nat->Option VM} (h:MeetI w mb n i N M) (hij:i<=j) (hN:N<=N'):MeetI w mb n j N' M:=⟨h.1,h.2.mono hij hN⟩
theorem zcR (mb n i N k q:Nat) (M:Nat->Option VM) (s:VSt) (w:World) (h:MeetI w mb n i N M) (hk:k<n) (hs:StAt w q s) (hS:SInv n i s) (hi:i<=1000000) (hN:N<=1000000000000):
  Calls Tryz.prog 53 #[.pointer (some ⟨mb,k*3,none⟩),.pointer (some ⟨q,0,none⟩)] w fun e w'=>e= .returned (.tuple #[])/\MeetI w' mb n i (N+1) (zC M (k,s))/\AddK mb w w':=by
 obtain⟨⟨cs,g,hm⟩,hA⟩:=h;refine(zjZ mb n k q M s cs g w hm hk hs (hS.ok hi).len (zkR hA hS hi hN)).mono ?_;rintro e w' ⟨rfl,h1,h2,h3⟩;exact⟨rfl,⟨h1,zkt hA hS⟩,h2,h3⟩
section
variable {w:World} {Y i:Nat} {v:Value} {cs:Array Value} {fr:Nat × Nat}
theorem zc6 {b:Nat} {cs':Array Value} {T T':TypeId} {fr':Nat × Nat} (hb:w.heap[b]?=some (.cells cs' T' fr')) (hY:w.heap[Y]?=some (.cells cs T fr)) (hT:T≠T'):(w.setCell ⟨Y,i,none⟩ v).heap[b]?=some (.cells cs' T' fr'):=
 (zzq3 w ⟨Y,i,none⟩ b v (fun h=>by
  have h':b=Y:=h;rw [h',hY]at hb;exact hT (by injection hb with hb;injection hb))).trans hb
theorem StAt.setFar {b:Nat} {s:VSt} (h:StAt w b s) (hY:w.heap[Y]?=some (.cells cs 89 fr)):StAt (w.setCell ⟨Y,i,none⟩ v) b s:=by
 obtain⟨xo,xc,yo,yc,to',tc,hr,hl⟩:=h;exact⟨xo,xc,yo,yc,to',tc,zc6 hr hY (by decide),⟨hl.x.setFar hY (by decide),hl.y.setFar hY (by decide),hl.t.setFar hY (by decide),hl.xl,hl.yl,hl.tl⟩⟩
theorem MOne.setFar {mb g:Nat} {pv av wv:Value} {mo:Option VM} (h:MOne w mb pv av wv g mo) (hY:w.heap[Y]?=some (.cells cs 89 fr)):MOne (w.setCell ⟨Y,i,none⟩ v) mb pv av wv g mo:=by
 cases mo with
 |none=>exact h
 |some m=>
  obtain⟨⟨b,e1,h1⟩,e2,ps,e3,h2,h3,h4⟩:=h;exact⟨⟨b,e1,h1.setFar hY⟩,e2,ps,e3,fun j a b=>(h2 j a b).setFar hY,⟨h3.1,h3.2.imp id fun⟨g',cap,cur,a,b,c,d⟩=>⟨g',cap,cur,a,b,zc6 c hY (by decide),d⟩⟩,h4⟩
theorem MeetI.setFar {mb n j N:Nat} {M:Nat->Option VM} (h:MeetI w mb n j N M) (hY:w.heap[Y]?=some (.cells cs 89 fr)):MeetI (w.setCell ⟨Y,i,none⟩ v) mb n j N M:=
 ⟨h.1.elim fun cs' h=>h.elim fun g h=>⟨cs',g,zc6 h.row hY (by decide),h.size,h.inj,fun k hk=>by
  obtain⟨pv,av,wv,f0,f1,f2,h1⟩:=h.one k hk;exact⟨pv,av,wv,f0,f1,f2,h1.setFar hY⟩⟩,h.2⟩
theorem VEnv.setAt {w0:World} {E U mb:Nat} {a:Int} {u:RUnit} {lo fo go co:zzA} {lc fc gc cc mc:Nat} (h:VEnv w0 w E U mb a u lo fo go co lc fc gc cc mc) (hE:w0.heap.size<=E) (a':Int):
  VEnv w0 (w.setCell ⟨E,2,none⟩ (.int .i64 a')) E U mb a' u lo fo go co lc fc gc cc mc:=
 ⟨zzS w E 2 _ _ _ h.ex,h.bx,h.up,h.bl.setCell (p:=⟨E,2,none⟩) hE _,h.le⟩
end
theorem zkg:(Tryz.prog.info? 86).map (fun i=>(i.zero,i.size,i.bytes))=some (some (.agg #[.pointer none,.slice none 0 0,.int .i64 0]),3,40):=by kernel_rfl
theorem zlp (n:Nat) (hn:n<=1000000): ∃arr:Array Value,arr.size=n*3/\(∀k,k<n->arr[k*3]?=some (.pointer none)/\arr[k*3+1]?=some (.slice none 0 0)/\arr[k*3+2]?=some (.int .i64 0)) /\
  ∀wx:World,(Instr.makeSlice 87 (.int .i64 (n:Int)) (.int .i64 (n:Int))).run Tryz.prog wx= .ok (.slice (some ⟨wx.heap.size,0,none⟩) n n) (wx.alloc (.cells arr 86)):=by
 obtain⟨i0,hi,hz0,hz1,hz2⟩:=info_parts zkg;refine⟨madeCells (Value.agg #[.pointer none,.slice none 0 0,.int .i64 0]).cells (n*i0.size),by rw [size_madeCells,hz1],fun k hk=>?_,fun wx=>?_⟩
 ·rw [hz1]
  have h3:(Value.agg #[.pointer none,.slice none 0 0,.int .i64 0]).cells=#[.pointer none,.slice none 0 0,.int .i64 0]:=by rfl
  rw [h3];have e0:k*3%3=0:=by omega
  have e1:(k*3+1)%3=1:=by omega
  have e2:(k*3+2)%3=2:=by omega
  unfold madeCells;refine⟨?_,?_,?_⟩
  ·rw [Array.getElem?_map,Array.getElem?_range,if_pos (by omega)];simp [e0]
  ·rw [Array.getElem?_map,Array.getElem?_range,if_pos (by omega)];simp [e1]
  ·rw [Array.getElem?_map,Array.getElem?_range,if_pos (by omega)];simp [e2]
 ·have:=run_make (P:=Tryz.prog) wx 87 86 i0 _ Tryz.underlying87 hi hz0 .i64 .i64 n n (by omega) (Int.le_refl _) (by rw [hz2];omega) (by omega)
  simpa only [zzq13] using this
theorem zhV {w:World} {mb n:Nat} {arr:Array Value} (hr:w.heap[mb]?=some (.cells arr 86 (0,0))) (hs:arr.size=n*3) (ha: ∀k,k<n->arr[k*3]?=some (.pointer none)/\arr[k*3+1]?=some (.slice none 0 0)/\arr[k*3+2]?=some (.int .i64 0)) (i N:Nat):MeetI w mb n i N (fun _=>none):=
 ⟨⟨arr,fun _=>0,hr,hs,fun _ _ _ _ _ h=>absurd rfl h,fun k hk=>⟨_,_,_,(ha k hk).1,(ha k hk).2.1,(ha k hk).2.2,rfl,rfl,rfl⟩⟩,AInv.nil _ _ _⟩
def zdb:Array Value:=#[.func (.func 89) #[] #[],.func (.func 90) #[] #[],.func (.func 91) #[] #[],.func (.func 92) #[] #[],.func (.func 94) #[] #[],.func (.func 96) #[] #[]]
theorem zhk (w:World):Calls Tryz.prog 55 #[] w fun e w'=>e= .returned (.slice (some ⟨w.heap.size,0,none⟩) 6 6)/\w'.heap[w.heap.size]?=some (.cells zdb 126 (0,0))/\Below w.heap.size w w':=by
 have h1:=zzF w (.cells zdb 126);have h2:=(zzR w.heap.size w).alloc (zzL _) (.cells zdb 126);have H1:=zzH h1;have H2:=zzH h2;clear h1 h2;go_in;go_wp2;go_ret;exact⟨rfl,H1.out,H2.out⟩
end Go.Proofs.YtepjanajflkakaaGreatDoor
