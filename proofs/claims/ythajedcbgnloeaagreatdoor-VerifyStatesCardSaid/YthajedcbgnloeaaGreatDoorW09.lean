import Derived.Test.YthajedcbgnloeaaGreatDoorW06
import Derived.Test.YthajedcbgnloeaaGreatDoorW07
namespace Go.Proofs.YthajedcbgnloeaaGreatDoor
open Go.RowKit
set_option linter.unusedVariables false
set_option linter.unusedSimpArgs false
set_option maxRecDepth 100000
set_option maxHeartbeats 0
def zdA (op:Int):Bool:=decide (1<=op/\op<=40)
def zD (op:Int):Int × Int × Int:=(rowT[op.toNat]?).getD (0,0,0)
def zem (u:RUnit) (i:Nat) (x:RIns):Bool:=
 zdA x.op&&(zU u.lits.length x (zD x.op).1.toNat (zD x.op).2.1.toNat (zD x.op).2.2.toNat&&(zi u.funcs.length u.funs x&&(zbp x&&(zbl u.lits x&&zbK u.code i x (zD x.op).1.toNat))))
def zbk (u:RUnit):List RIns->Nat->Option Nat
 |[],_=>none
 |x::l,i=>if zem u i x=true then zbk u l (i+1)else some i
def zb8 (f:Nat) (u:RUnit):Int:=if zP f u=true then(match zbk u u.code 0 with|some i=>(i:Int)|none=>0)else -1
def zbt (f:Nat) (u:RUnit):Int:=if zP f u=true then(match zbk u u.code 0 with|some _=>6|none=>0)else 6
theorem zi2 (u:RUnit) {l:List RIns} {k:Nat} (h:k<l.length):zbk u (l.drop k) k=if zem u k l[k]=true then zbk u (l.drop (k+1)) (k+1)else some k:=by
 rw [List.drop_eq_getElem_cons h,zbk]
theorem zgM: ∀k,(h:k<41)->0<=(rowT[k]'h).1/\(rowT[k]'h).1<1000/\0<=(rowT[k]'h).2.1/\(rowT[k]'h).2.1<1000/\0<=(rowT[k]'h).2.2/\(rowT[k]'h).2.2<1000:=by decide
theorem zn1 {op:Int} (h:1<=op/\op<=40) (w:World) (hr:RowsAt w):
  Calls Tryz.prog 23 #[.int .i64 op] w fun e w'=>e= .returned (.tuple #[.agg #[.int .i64 ((zD op).1.toNat:Nat),.int .i64 ((zD op).2.1.toNat:Nat),.int .i64 ((zD op).2.2.toNat:Nat)],.bool true])/\Below w.heap.size w w':=by
 obtain⟨k,rfl⟩: ∃k:Nat,op=(k:Int):=⟨op.toNat,by omega⟩;have hk:k<41:=by omega
 have h1:=zmV k (by omega) hk w hr;obtain⟨a,b,c,d,e,g⟩:=zgM k hk;have hra:zD (k:Int)=rowT[k]'hk:=by unfold zD;rw [zzq11,zzq3 (by exact hk)];rfl
 rw [hra,Int.toNat_of_nonneg a,Int.toNat_of_nonneg c,Int.toNat_of_nonneg e];exact h1
theorem zor {op:Int}:(zD op).1.toNat<1000/\(zD op).2.1.toNat<1000/\(zD op).2.2.toNat<1000:=by
 unfold zD;by_cases h:op.toNat<41
 ·obtain⟨a,b,c,d,e,g⟩:=zgM op.toNat h
  rw [zzq3 (by exact h)];simp only [Option.getD_some];omega
 ·rw [List.getElem?_eq_none (by exact Nat.le_of_not_lt h)]
  simp
theorem zcP {k k':IntKind} {a b c d:Int} (h:a=b) (h':c=d):Ending.returned (.tuple #[.int k a,.int k' c])= .returned (.tuple #[.int k b,.int k' d]):=by rw [h,h']
theorem zfJ {f:Nat} {u:RUnit} (h:zP f u=true): ∀t∈u.lits,zM f t=true:=by
 unfold zP at h;rw [zzq4,zzq4]at h;exact zzp.1 h.2.1
theorem zh3 (f:Nat) (u:RUnit) (lo fo go co:zzA) (lc fc gc cc:Nat) (w:World) (hrows:RowsAt w) (hsp:SpaceAt w) (hp:UP w u lo fo go co) (hlits:SlAt w 9 (TmAt w (f+1)) lo u.lits) (hcap: ∀t∈u.lits,(zR (f+1) t:Int)<=1152921504606846976) (hnm: ∀x∈u.code,x.name.size<=140737488355328):
  Calls Tryz.prog 15 #[.agg (zzu u lo lc fo fc go gc co cc)] w fun e w'=>e= .returned (.tuple #[.int .i64 (zb8 (f+1) u),.int .i64 (zbt (f+1) u)])/\Below w.heap.size w w':=by
 unfold zzu;refine zzK6 hp hrows hsp hlits hcap hnm fun HP HRW HSP HLI HCAP HNM=>?_;clear hrows hsp hp hlits hcap hnm;have hbx:=zd3 w u lo fo go co lc fc gc cc;have hba:Below w.heap.size w (w.alloc (.cells (zzu u lo lc fo fc go gc co cc) 27)):=zzE _ _;have hT:=zlH f w.heap.size u lo fo go co lc fc gc cc _ hbx (HP.out.below hba) (HLI.out.tms hba) HCAP.out;have HBX:=zzH hbx;have HBA:=zzH hba;have EI:Hid (zb8 (f+1) u=if zP (f+1) u=true then(match zbk u u.code 0 with|some i=>(i:Int)|none=>0)else -1):=zzH rfl;have EE:Hid (zbt (f+1) u=if zP (f+1) u=true then(match zbk u u.code 0 with|some _=>6|none=>0)else 6):=zzH rfl;clear hbx hba
 cases htb:zP (f+1) u with
 |false=>
  rw [htb]at hT EI EE;rw [if_neg (by decide)]at EI EE;clear htb;go_in;go_wp2_with fail;refine hT.mono ?_;rintro e w5 ⟨rfl,hb5⟩;go_wp2;go_ret2;exact⟨zcP EI.out.symm EE.out.symm,ze HBA.out hb5⟩
 |true=>
  rw [htb]at hT EI EE;rw [if_pos rfl]at EI EE;have HLV:=zzH (zfJ htb);have HI:Hid (zbk u u.code 0=zbk u (u.code.drop 0) 0):=zzH rfl;clear htb;have hcl:=HP.out.codeLen;go_in;go_wp2_with fail;refine hT.mono ?_;rintro e w5 ⟨rfl,hb5⟩;have HB5:=zzH (ze HBA.out hb5);have HU5:=zzH (HBX.out.below hb5);have d5:=HU5.out.c5;have hsz:w.heap.size<=w5.heap.size:=HB5.out.size;clear hb5 hT HBX HBA;generalize hBe:w.heap.size=B at *;have HBE:=zzH hBe;clear hBe;go_wp2_with fail;go_loopw [13] (fun i wr=> ∃k:Nat,k<=u.code.length/\i= .int .i64 k/\Hid (zbk u u.code 0=zbk u (u.code.drop k) k)/\Below w5.heap.size w5 wr) (fun i _=>u.code.length-(intOf i).toNat)
  case atStart=>exact⟨0,zzZ _,rfl,HI,zzR _ _⟩
  case round=>
   obtain⟨k,hk,rfl,HK,hBw⟩:=hrel;rename World=>wr
   by_cases hlt:k<u.code.length
   ·have HFW:Hid (Below w.heap.size w wr):=zzH (by rw [HBE.out];exact HB5.out.trans (hBw.mono hsz))
    obtain⟨bc,oc,so,co',go',sc,cc',gc',hco,hxb⟩:=zdl (HP.out.below HFW.out).code hlt;subst hco;have HST:=zzH (zi2 u hlt);have hui:=HU5.out.below hBw;have e5:=hui.c5;have c0:=hxb.c0;have hbl:=hxb.lt;have hBl:=hui.lt;have hll:=HP.out.litsLen;have hrl:= @zor u.code[k].op;have HINS:Hid (zem u k u.code[k]=(zdA u.code[k].op&&(zU u.lits.length u.code[k] (zD u.code[k].op).1.toNat (zD u.code[k].op).2.1.toNat (zD u.code[k].op).2.2.toNat&&(zi u.funcs.length u.funs u.code[k]&&(zbp u.code[k]&&(zbl u.lits u.code[k]&&zbK u.code k u.code[k] (zD u.code[k].op).1.toNat)))))):=zzH rfl;have cf:=fun wx (hx:Below wr.heap.size wr wx)=>zkQ B u lo fo go (some ⟨bc,oc,none⟩) lc fc gc cc bc (oc+k*10) u.code[k] so co' go' sc cc' gc' (zD u.code[k].op).1.toNat (zD u.code[k].op).2.1.toNat (zD u.code[k].op).2.2.toNat wx (hui.below hx) hll (hxb.below hx) hrl.1 hrl.2.1 hrl.2.2
    have cn:=fun wx (hx:Below wr.heap.size wr wx)=>zlW B u lo fo go (some ⟨bc,oc,none⟩) lc fc gc cc bc (oc+k*10) u.code[k] so co' go' sc cc' gc' wx (hui.below hx) HP.out.funcsLen HP.out.funsLen ((HP.out.below HFW.out).below hx).funs (hxb.below hx)
    have cm:=fun wx (hx:Below wr.heap.size wr wx)=>znb bc (oc+k*10) u.code[k] so co' go' sc cc' gc' wx ((HSP.out.below HFW.out).below hx) (hxb.below hx) (HNM.out _ (zzM hlt))
    have cl:=fun wx (hx:Below wr.heap.size wr wx)=>zmR B u lo fo go (some ⟨bc,oc,none⟩) lc fc gc cc bc (oc+k*10) u.code[k] so co' go' sc cc' gc' f wx (hui.below hx) hll ⟨(HLI.out.tms HFW.out).tms hx,fun t ht=>⟨HLV.out t ht,HCAP.out t ht⟩⟩ (hxb.below hx)
    have ct:=fun wx (hx:Below wr.heap.size wr wx)=>zke B u lo fo go lc fc gc cc bc oc k (zD u.code[k].op).1.toNat (zD u.code[k].op).2.1.toNat (zD u.code[k].op).2.2.toNat so co' go' sc cc' gc' wx (hui.below hx) ((HP.out.below HFW.out).below hx).code hcl hlt u.code[k] (hxb.below hx) hrl.1
    refine zzK5 cf cn cm cl ct fun CF CN CM CL CT=>?_;clear cf cn cm cl ct hrl hxb hui;by_cases hop:1<=u.code[k].op/\u.code[k].op<=40
    ·have hro:=zn1 hop wr (HRW.out.below HFW.out)
     have hok1:zdA u.code[k].op=true:=by unfold zdA;exact zzT hop
     rw [hok1]at HINS;clear hop hok1;generalize zU u.lits.length u.code[k] (zD u.code[k].op).1.toNat (zD u.code[k].op).2.1.toNat (zD u.code[k].op).2.2.toNat=b1 at *;generalize zbK u.code k u.code[k] (zD u.code[k].op).1.toNat=b5 at *;generalize zi u.funcs.length u.funs u.code[k]=b2 at *;generalize zbp u.code[k]=b3 at *;generalize zbl u.lits u.code[k]=b4 at *;generalize zem u k u.code[k]=ib at *;generalize(zD u.code[k].op).1.toNat=h at *;generalize(zD u.code[k].op).2.1.toNat=l1 at *;generalize(zD u.code[k].op).2.2.toNat=l2 at *;generalize u.code[k].op=op at *;have hbad:ib=false->zbk u u.code 0=some k:=fun e=>by rw [HK.out,HST.out,e];rfl
     have hgood:ib=true->zbk u u.code 0=zbk u (u.code.drop (k+1)) (k+1):=fun e=>by rw [HK.out,HST.out,e];rfl
     have HBAD:=zzH hbad;have HGOOD:=zzH hgood;clear hbad hgood
     cases b1 with
     |false=>
      have hb:=HBAD.out (by rw [HINS.out];rfl);have E1:Hid (zb8 (f+1) u=k):=zzH (by rw [EI.out,hb]);have E2:Hid (zbt (f+1) u=6):=zzH (by rw [EE.out,hb]);clear hb;go_wp2_with fail;refine hro.mono ?_;rintro e w6 ⟨rfl,hb6⟩;have HW:=zzH (hb6.alloc hb6.size (.cells #[.int .i64 (h:Nat),.int .i64 (l1:Nat),.int .i64 (l2:Nat)] 74));have hR:=zzF w6 (.cells #[.int .i64 (h:Nat),.int .i64 (l1:Nat),.int .i64 (l2:Nat)] 74);have HR:=zzH hR;have HWW:=zzH (zzR (w6.alloc (.cells #[.int .i64 (h:Nat),.int .i64 (l1:Nat),.int .i64 (l2:Nat)] 74)).heap.size (w6.alloc (.cells #[.int .i64 (h:Nat),.int .i64 (l1:Nat),.int .i64 (l2:Nat)] 74)));clear hb6 hR;go_wp2_with fail;generalize w6.alloc (.cells #[.int .i64 (h:Nat),.int .i64 (l1:Nat),.int .i64 (l2:Nat)] 74)=W6 at *;generalize w6.heap.size=R at *;refine(CF.out _ HW.out).mono ?_;rintro e v0 ⟨rfl,hc0⟩;have HV0:=zzH (ze HW.out hc0);have HZ0:=zzH (ze HWW.out hc0);clear hc0;go_wp2;go_ret2;exact⟨zcP E1.out.symm E2.out.symm,HFW.out.trans (HV0.out.mono HFW.out.size)⟩
     |true=>
      cases b2 with
      |false=>
       have hb:=HBAD.out (by rw [HINS.out];rfl);have E1:Hid (zb8 (f+1) u=k):=zzH (by rw [EI.out,hb]);have E2:Hid (zbt (f+1) u=6):=zzH (by rw [EE.out,hb]);clear hb;go_wp2_with fail;refine hro.mono ?_;rintro e w6 ⟨rfl,hb6⟩;have HW:=zzH (hb6.alloc hb6.size (.cells #[.int .i64 (h:Nat),.int .i64 (l1:Nat),.int .i64 (l2:Nat)] 74));have hR:=zzF w6 (.cells #[.int .i64 (h:Nat),.int .i64 (l1:Nat),.int .i64 (l2:Nat)] 74);have HR:=zzH hR;have HWW:=zzH (zzR (w6.alloc (.cells #[.int .i64 (h:Nat),.int .i64 (l1:Nat),.int .i64 (l2:Nat)] 74)).heap.size (w6.alloc (.cells #[.int .i64 (h:Nat),.int .i64 (l1:Nat),.int .i64 (l2:Nat)] 74)));clear hb6 hR;go_wp2_with fail;generalize w6.alloc (.cells #[.int .i64 (h:Nat),.int .i64 (l1:Nat),.int .i64 (l2:Nat)] 74)=W6 at *;generalize w6.heap.size=R at *;refine(CF.out _ HW.out).mono ?_;rintro e v0 ⟨rfl,hc0⟩;have HV0:=zzH (ze HW.out hc0);have HZ0:=zzH (ze HWW.out hc0);clear hc0;go_wp2_with fail;refine(CN.out _ HV0.out).mono ?_;rintro e v1 ⟨rfl,hc1⟩;have HV1:=zzH (ze HV0.out hc1);have HZ1:=zzH (ze HZ0.out hc1);clear hc1;go_wp2;go_ret2;exact⟨zcP E1.out.symm E2.out.symm,HFW.out.trans (HV1.out.mono HFW.out.size)⟩
      |true=>
       cases b3 with
       |false=>
        have hb:=HBAD.out (by rw [HINS.out];rfl);have E1:Hid (zb8 (f+1) u=k):=zzH (by rw [EI.out,hb]);have E2:Hid (zbt (f+1) u=6):=zzH (by rw [EE.out,hb]);clear hb;go_wp2_with fail;refine hro.mono ?_;rintro e w6 ⟨rfl,hb6⟩;have HW:=zzH (hb6.alloc hb6.size (.cells #[.int .i64 (h:Nat),.int .i64 (l1:Nat),.int .i64 (l2:Nat)] 74));have hR:=zzF w6 (.cells #[.int .i64 (h:Nat),.int .i64 (l1:Nat),.int .i64 (l2:Nat)] 74);have HR:=zzH hR;have HWW:=zzH (zzR (w6.alloc (.cells #[.int .i64 (h:Nat),.int .i64 (l1:Nat),.int .i64 (l2:Nat)] 74)).heap.size (w6.alloc (.cells #[.int .i64 (h:Nat),.int .i64 (l1:Nat),.int .i64 (l2:Nat)] 74)));clear hb6 hR;go_wp2_with fail;generalize w6.alloc (.cells #[.int .i64 (h:Nat),.int .i64 (l1:Nat),.int .i64 (l2:Nat)] 74)=W6 at *;generalize w6.heap.size=R at *;refine(CF.out _ HW.out).mono ?_;rintro e v0 ⟨rfl,hc0⟩;have HV0:=zzH (ze HW.out hc0);have HZ0:=zzH (ze HWW.out hc0);clear hc0;go_wp2_with fail;refine(CN.out _ HV0.out).mono ?_;rintro e v1 ⟨rfl,hc1⟩;have HV1:=zzH (ze HV0.out hc1);have HZ1:=zzH (ze HZ0.out hc1);clear hc1;go_wp2_with fail;refine(CM.out _ HV1.out).mono ?_;rintro e v2 ⟨rfl,hc2⟩;have HV2:=zzH (ze HV1.out hc2);have HZ2:=zzH (ze HZ1.out hc2);clear hc2;go_wp2;go_ret2;exact⟨zcP E1.out.symm E2.out.symm,HFW.out.trans (HV2.out.mono HFW.out.size)⟩
       |true=>
        cases b4 with
        |false=>
         have hb:=HBAD.out (by rw [HINS.out];rfl);have E1:Hid (zb8 (f+1) u=k):=zzH (by rw [EI.out,hb]);have E2:Hid (zbt (f+1) u=6):=zzH (by rw [EE.out,hb]);clear hb;go_wp2_with fail;refine hro.mono ?_;rintro e w6 ⟨rfl,hb6⟩;have HW:=zzH (hb6.alloc hb6.size (.cells #[.int .i64 (h:Nat),.int .i64 (l1:Nat),.int .i64 (l2:Nat)] 74));have hR:=zzF w6 (.cells #[.int .i64 (h:Nat),.int .i64 (l1:Nat),.int .i64 (l2:Nat)] 74);have HR:=zzH hR;have HWW:=zzH (zzR (w6.alloc (.cells #[.int .i64 (h:Nat),.int .i64 (l1:Nat),.int .i64 (l2:Nat)] 74)).heap.size (w6.alloc (.cells #[.int .i64 (h:Nat),.int .i64 (l1:Nat),.int .i64 (l2:Nat)] 74)));clear hb6 hR;go_wp2_with fail;generalize w6.alloc (.cells #[.int .i64 (h:Nat),.int .i64 (l1:Nat),.int .i64 (l2:Nat)] 74)=W6 at *;generalize w6.heap.size=R at *;refine(CF.out _ HW.out).mono ?_;rintro e v0 ⟨rfl,hc0⟩;have HV0:=zzH (ze HW.out hc0);have HZ0:=zzH (ze HWW.out hc0);clear hc0;go_wp2_with fail;refine(CN.out _ HV0.out).mono ?_;rintro e v1 ⟨rfl,hc1⟩;have HV1:=zzH (ze HV0.out hc1);have HZ1:=zzH (ze HZ0.out hc1);clear hc1;go_wp2_with fail;refine(CM.out _ HV1.out).mono ?_;rintro e v2 ⟨rfl,hc2⟩;have HV2:=zzH (ze HV1.out hc2);have HZ2:=zzH (ze HZ1.out hc2);clear hc2;go_wp2_with fail;refine(CL.out _ HV2.out).mono ?_;rintro e v3 ⟨rfl,hc3⟩;have HV3:=zzH (ze HV2.out hc3);have HZ3:=zzH (ze HZ2.out hc3);clear hc3;go_wp2;go_ret2;exact⟨zcP E1.out.symm E2.out.symm,HFW.out.trans (HV3.out.mono HFW.out.size)⟩
        |true=>
         cases b5 with
         |false=>
          have hb:=HBAD.out (by rw [HINS.out];rfl);have E1:Hid (zb8 (f+1) u=k):=zzH (by rw [EI.out,hb]);have E2:Hid (zbt (f+1) u=6):=zzH (by rw [EE.out,hb]);clear hb;go_wp2_with fail;refine hro.mono ?_;rintro e w6 ⟨rfl,hb6⟩;have HW:=zzH (hb6.alloc hb6.size (.cells #[.int .i64 (h:Nat),.int .i64 (l1:Nat),.int .i64 (l2:Nat)] 74));have hR:=zzF w6 (.cells #[.int .i64 (h:Nat),.int .i64 (l1:Nat),.int .i64 (l2:Nat)] 74);have HR:=zzH hR;have HWW:=zzH (zzR (w6.alloc (.cells #[.int .i64 (h:Nat),.int .i64 (l1:Nat),.int .i64 (l2:Nat)] 74)).heap.size (w6.alloc (.cells #[.int .i64 (h:Nat),.int .i64 (l1:Nat),.int .i64 (l2:Nat)] 74)));clear hb6 hR;go_wp2_with fail;generalize w6.alloc (.cells #[.int .i64 (h:Nat),.int .i64 (l1:Nat),.int .i64 (l2:Nat)] 74)=W6 at *;generalize w6.heap.size=R at *;refine(CF.out _ HW.out).mono ?_;rintro e v0 ⟨rfl,hc0⟩;have HV0:=zzH (ze HW.out hc0);have HZ0:=zzH (ze HWW.out hc0);clear hc0;go_wp2_with fail;refine(CN.out _ HV0.out).mono ?_;rintro e v1 ⟨rfl,hc1⟩;have HV1:=zzH (ze HV0.out hc1);have HZ1:=zzH (ze HZ0.out hc1);clear hc1;go_wp2_with fail;refine(CM.out _ HV1.out).mono ?_;rintro e v2 ⟨rfl,hc2⟩;have HV2:=zzH (ze HV1.out hc2);have HZ2:=zzH (ze HZ1.out hc2);clear hc2;go_wp2_with fail;refine(CL.out _ HV2.out).mono ?_;rintro e v3 ⟨rfl,hc3⟩;have HV3:=zzH (ze HV2.out hc3);have HZ3:=zzH (ze HZ2.out hc3);clear hc3;have hrr:=(HZ3.out.block R (zd HR.out)).trans HR.out;obtain ⟨g0,g1,g2⟩:=zzc3 hrr;clear hrr;go_wp2_with fail;refine(CT.out _ HV3.out).mono ?_;rintro e v4 ⟨rfl,hc4⟩;have HV4:=zzH (ze HV3.out hc4);have HZ4:=zzH (ze HZ3.out hc4);clear hc4;go_wp2;go_ret2;exact⟨zcP E1.out.symm E2.out.symm,HFW.out.trans (HV4.out.mono HFW.out.size)⟩
         |true=>
          have HNX:=zzH (HGOOD.out (by rw [HINS.out];rfl));go_wp2_with fail;refine hro.mono ?_;rintro e w6 ⟨rfl,hb6⟩;have HW:=zzH (hb6.alloc hb6.size (.cells #[.int .i64 (h:Nat),.int .i64 (l1:Nat),.int .i64 (l2:Nat)] 74));have hR:=zzF w6 (.cells #[.int .i64 (h:Nat),.int .i64 (l1:Nat),.int .i64 (l2:Nat)] 74);have HR:=zzH hR;have HWW:=zzH (zzR (w6.alloc (.cells #[.int .i64 (h:Nat),.int .i64 (l1:Nat),.int .i64 (l2:Nat)] 74)).heap.size (w6.alloc (.cells #[.int .i64 (h:Nat),.int .i64 (l1:Nat),.int .i64 (l2:Nat)] 74)));clear hb6 hR;go_wp2_with fail;generalize w6.alloc (.cells #[.int .i64 (h:Nat),.int .i64 (l1:Nat),.int .i64 (l2:Nat)] 74)=W6 at *;generalize w6.heap.size=R at *;refine(CF.out _ HW.out).mono ?_;rintro e v0 ⟨rfl,hc0⟩;have HV0:=zzH (ze HW.out hc0);have HZ0:=zzH (ze HWW.out hc0);clear hc0;go_wp2_with fail;refine(CN.out _ HV0.out).mono ?_;rintro e v1 ⟨rfl,hc1⟩;have HV1:=zzH (ze HV0.out hc1);have HZ1:=zzH (ze HZ0.out hc1);clear hc1;go_wp2_with fail;refine(CM.out _ HV1.out).mono ?_;rintro e v2 ⟨rfl,hc2⟩;have HV2:=zzH (ze HV1.out hc2);have HZ2:=zzH (ze HZ1.out hc2);clear hc2;go_wp2_with fail;refine(CL.out _ HV2.out).mono ?_;rintro e v3 ⟨rfl,hc3⟩;have HV3:=zzH (ze HV2.out hc3);have HZ3:=zzH (ze HZ2.out hc3);clear hc3;have hrr:=(HZ3.out.block R (zd HR.out)).trans HR.out;obtain ⟨g0,g1,g2⟩:=zzc3 hrr;clear hrr;go_wp2_with fail;refine(CT.out _ HV3.out).mono ?_;rintro e v4 ⟨rfl,hc4⟩;have HV4:=zzH (ze HV3.out hc4);have HZ4:=zzH (ze HZ3.out hc4);clear hc4;go_wp2_with fail;go_roundw
          case rel=>exact⟨k+1,by omega,by go_num,HNX,hBw.trans (HV4.out.mono hBw.size)⟩
          case measure=>simp [intOf];omega
    ·have hb:zbk u u.code 0=some k:=by rw [HK.out,HST.out,HINS.out];unfold zdA;rw [decide_eq_false hop];simp
     have E1:Hid (zb8 (f+1) u=k):=zzH (by rw [EI.out,hb]);have E2:Hid (zbt (f+1) u=6):=zzH (by rw [EE.out,hb]);have hro:=zoY u.code[k].op hop wr;clear hb hop;generalize u.code[k].op=op at *;go_wp2_with fail;refine hro.mono ?_;rintro e w6 ⟨rfl,hb6⟩;have HF:=zzH (HFW.out.trans (hb6.mono HFW.out.size));go_wp2;go_ret2;exact⟨zcP E1.out.symm E2.out.symm,HF.out.alloc HF.out.size _⟩
   ·have E:Hid (zbk u u.code 0=none):=zzH (by rw [HK.out,zzq10 (by omega)];rfl)
    have E1:Hid (zb8 (f+1) u=0):=zzH (by rw [EI.out,E.out]);have E2:Hid (zbt (f+1) u=0):=zzH (by rw [EE.out,E.out]);have HF:Hid (Below w.heap.size w wr):=zzH (by rw [HBE.out];exact HB5.out.trans (hBw.mono hsz));go_wp2;go_ret2;exact⟨zcP E1.out.symm E2.out.symm,HF.out⟩
theorem zb5 {n a b:Int} (h:wi n a b=true):a<=n/\n<=b:=by
 unfold wi at h;rw [zzq4,zzq8,zzq8]at h;exact h
theorem zlZ: ∀k,(h:k<41)->(zx (rowT[k]'h).1.toNat 16=true->k=12)/\(zx (rowT[k]'h).1.toNat 8=true->k=13\/k=14\/k=15) /\
  (zx (rowT[k]'h).1.toNat 4=true->k=4\/k=5\/k=9\/k=15\/k=16\/k=17\/k=18\/k=19\/k=20\/k=21\/k=24\/k=31\/k=32\/k=33)/\(rowT[k]'h).2.2<=255:=by decide
theorem zjT {op:Int} (h:1<=op/\op<=40):(zx (zD op).1.toNat 16=true->op=12)/\(zx (zD op).1.toNat 8=true->op=13\/op=14\/op=15) /\
  (zx (zD op).1.toNat 4=true->op=4\/op=5\/op=9\/op=15\/op=16\/op=17\/op=18\/op=19\/op=20\/op=21\/op=24\/op=31\/op=32\/op=33)/\(zD op).2.2<=255:=by
 obtain⟨k,rfl⟩: ∃k:Nat,op=(k:Int):=⟨op.toNat,by omega⟩;have hk:k<41:=by omega
 have hra:zD (k:Int)=rowT[k]'hk:=by unfold zD;rw [zzq11,zzq3 (by exact hk)];rfl
 rw [hra];obtain⟨a,b,c,d⟩:=zlZ k hk;exact⟨fun h=>by have:=a h;omega,fun h=>by have:=b h;omega,fun h=>by have:=c h;omega,d⟩
structure TabOk (u:RUnit):Prop where
 mdl:u.mdl.size<=32
 vsn0:1<=u.vsn
 vsn1:u.vsn<=2147483647
 code0:1<=u.code.length
 code1:u.code.length<=524288
 lits:u.lits.length<=65535
 funcs:u.funcs.length<=200
 funs:u.funs.length<=1000
 func: ∀g∈u.funcs,g.name.size<=32/\0<=g.arity/\g.arity<=16/\0<=g.entry/\g.entry<=524288
 fn: ∀g∈u.funs,0<=g.arity/\g.arity<=16/\0<=g.free/\g.free<=200/\0<=g.entry/\g.entry<=524288
theorem zhq {s:ByteArray} (h:zy s=true):s.size<=32:=by
 unfold zy at h;rw [zzq4,zzq4,zzq8,zzq8]at h;exact h.1.2
theorem zqx {f:Nat} {u:RUnit} (h:zP f u=true):TabOk u:=by
 unfold zP zfw at h;simp only [zzq4,zzq8]at h;obtain⟨⟨h1,h2,h3,h4,h5,h6,h7,h8⟩,_,hf,hg⟩:=h;refine⟨zhq h1,h2,h3,by omega,by omega,h6,h7,h8,fun g hm=>?_,fun g hm=>?_⟩
 ·obtain⟨k,hk,rfl⟩:=List.getElem_of_mem hm
  have:=(zza hf k hk).1;unfold zdN at this;rw [zzq4,zzq4]at this;have a:=zb5 this.2.1;have b:=zb5 this.2.2;exact⟨zhq this.1,by omega,by omega,by omega,by omega⟩
 ·exact zz56
theorem ziY {u:RUnit}: ∀(l:List RIns) (i:Nat),zbk u l i=none-> ∀k (h:k<l.length),zem u (i+k) l[k]=true
 |[],_,_,k,h=>absurd h (zzC _)
 |x::l,i,hb,k,h=>by
  unfold zbk at hb;split at hb
  ·rename_i e
   cases k with
   |zero=>exact e
   |succ k=>
    have:=ziY l (i+1) hb k (by simpa using h);rw [show i+(k+1)=i+1+k by omega];exact this
  ·cases hb
theorem ziK {f:Nat} {u:RUnit} (h:zbt f u=0):TabOk u/\zP f u=true/\ ∀k (hk:k<u.code.length),zem u k u.code[k]=true:=by
 unfold zbt at h;split at h
 ·rename_i ht
  cases hb:zbk u u.code 0 with
  |some i=>rw [hb]at h;exact absurd (show(6:Int)=0 from h) (by decide)
  |none=>
   refine⟨zqx ht,ht,fun k hk=>?_⟩;have:=ziY u.code 0 hb k hk
   rwa [Nat.zero_add]at this
 ·exact absurd h (by decide)
theorem zi3 {w:World}: ∀(f:Nat) (l:List Tm) (m:Int),(∀t∈l,∃cs,TmAt w f cs t)->0<=zbG f l m->((zb0 (l.map (zR f))+l.length:Nat):Int)<=301*(m-zbG f l m)
 |0,l,m,h,_=>by
  cases l with
  |nil=>show((0+0:Nat):Int)<=301*(m-m);omega
  |cons t l=>obtain⟨cs,hf⟩:=h t zzg;exact hf.elim
 |f+1,l,m,h,hp=>by
  have IH:=zi3 (w:=w) f;show((zb0 (l.map (zR (f+1)))+l.length:Nat):Int)<=301*(m-zcZ (zbG f) l m);have hp:0<=zcZ (zbG f) l m:=hp
  induction l generalizing m with
  |nil=>show((0+0:Nat):Int)<=301*(m-m);omega
  |cons t l ih=>
   unfold zcZ at hp ⊢;by_cases h0:m<0
   ·rw [if_pos h0]at hp;omega
   ·rw [if_neg h0]at hp ⊢
    by_cases h1:m<t.name.size\/m<t.func.size\/m<t.bytes.size
    ·rw [if_pos h1]at hp;omega
    ·rw [if_neg h1]at hp ⊢
     have hm1: -1<=m-1-(t.name.size:Int)/8-(t.func.size:Int)/8-(t.bytes.size:Int)/8:=by omega
     have hm2:m-1-(t.name.size:Int)/8-(t.func.size:Int)/8-(t.bytes.size:Int)/8<=m-1:=by omega
     generalize m-1-(t.name.size:Int)/8-(t.func.size:Int)/8-(t.bytes.size:Int)/8=m1 at *;have hle:=zeT f t.items m1 hm1;have hle2:=zgY (zeT f) l (zbG f t.items m1) hle.1;obtain⟨cs,⟨ao,c,_,hs⟩,_⟩:=h t zzg
     have hi:=IH t.items m1 (fun x hx=>by
      obtain⟨j,hj,rfl⟩:=List.getElem_of_mem hx;obtain⟨_,_,_,_,hr⟩:=hs.row hj;obtain⟨cs',_,_,h'⟩:=hr j hj;exact⟨cs',h'⟩) (by omega)
     have hl:=ih (zbG f t.items m1) (fun x hx=>h x (zzh _ hx)) (by simpa [zbG] using hp) hp;have e1:zb0 ((t::l).map (zR (f+1)))=(300+t.items.length+zb0 (t.items.map (zR f)))+zb0 (l.map (zR (f+1))):=rfl;rw [e1,zzq18];omega
theorem zjc: ∀(l:List Nat) (x:Nat),x∈l->x<=zb0 l
 |[],_,h=>by cases h
 |y::l,x,h=>by
  show x<=y+zb0 l;rcases List.mem_cons.1 h with rfl|h
  ·omega
  ·have:=zjc l x h;omega
theorem zkw {t:Tm} (h:okK t=true):0<=zbe t/\zbe t<=300+t.items.length:=by
 unfold zbe;by_cases h9:t.kind=9
 ·rw [if_pos h9]
  unfold okK at h;rw [if_neg (by omega),if_neg (by omega),if_neg (by omega),if_neg (by omega),if_neg (by omega),if_neg (by omega),if_neg (by omega),if_pos h9,zzq4,zzq8]at h;omega
 ·rw [if_neg h9]
  by_cases h10:t.kind=10
  ·rw [if_pos h10]
   unfold okK at h;rw [if_neg (by omega),if_neg (by omega),if_neg (by omega),if_neg (by omega),if_neg (by omega),if_neg (by omega),if_neg (by omega),if_neg h9,if_pos h10]at h;unfold zfN zcz at h;rw [zzq4,zzq4]at h;have:=h.1.1;unfold wi at this;rw [zzq4,zzq8,zzq8]at this;omega
  ·rw [if_neg h10];omega
theorem zfs {f:Nat} (ih: ∀t,zh f t=true->0<=zr f t/\zr f t<=(zR f t:Int)): ∀(l:List Tm),l.all (zh f)=true->0<=zbz (l.map (zr f))/\zbz (l.map (zr f))<=(zb0 (l.map (zR f)):Int)
 |[],_=>⟨Int.le_refl _,Int.le_refl _⟩
 |t::l,h=>by
  rw [List.all_cons,zzq4]at h;have h1:=ih t h.1;have h2:=zfs ih l h.2;show 0<=zr f t+zbz (l.map (zr f))/\zr f t+zbz (l.map (zr f))<=((zR f t+zb0 (l.map (zR f)):Nat):Int);omega
theorem zdS: ∀(f:Nat) (t:Tm),zh f t=true->0<=zr f t/\zr f t<=(zR f t:Int)
 |0,_,h=>by cases h
 |f+1,t,h=>by
  unfold zh at h;rw [zzq4]at h;have hl:=h.1;unfold zc0 at hl;rw [zzq4]at hl;have h1:=zkw hl.1;have h2:=zfs (zdS f) t.items h.2;show 0<=zbe t+zbz (t.items.map (zr f))/\zbe t+zbz (t.items.map (zr f))<=((300+t.items.length+zb0 (t.items.map (zR f)):Nat):Int);omega
theorem zh1 {f:Nat} {l:List Tm} (h:l.all (zh f)=true) (k:Nat):(l.drop k).all (zh f)=true:=by
 rw [List.all_eq_true]at h ⊢;exact fun x hx=>h x (List.mem_of_mem_drop hx)
theorem zb9 (w:World) (t:Tm) (so:zzA) (c:Nat):(w.alloc (.cells #[.int .i64 t.kind,.int .i64 t.int,.int .i64 t.gen,.string t.name,.string t.func,.int .i64 t.arity,.slice so t.items.length c,.string t.bytes,.int .i64 t.bits] 110)).heap[w.heap.size]?=some (.cells #[.int .i64 t.kind,.int .i64 t.int,.int .i64 t.gen,.string t.name,.string t.func,.int .i64 t.arity,.slice so t.items.length c,.string t.bytes,.int .i64 t.bits] 110 (0,0)):=zzF _ _
theorem zhS: ∀(l:List Nat) (x:Nat),x∈l->x<=zb0 l
 |[],_,h=>by cases h
 |y::l,x,h=>by
  show x<=y+zb0 l;rcases List.mem_cons.1 h with rfl|h
  ·omega
  ·have:=zhS l x h;omega
def ziV (f:Nat):Prop:= ∀(t:Tm) (so:Option Addr) (c:Nat) (w:World),SlAt w 9 (TmAt w f) so t.items->t.Ok->zh (f+1) t=true->(zR (f+1) t:Int)<=1152921504606846976 ->
 Calls Tryz.prog 132 #[.agg #[.int .i64 t.kind,.int .i64 t.int,.int .i64 t.gen,.string t.name,.string t.func,.int .i64 t.arity,.slice so t.items.length c,.string t.bytes,.int .i64 t.bits]] w fun e w'=>e= .returned (.int .i64 (zr (f+1) t))/\Below w.heap.size w w'
def ziv (f:Nat) (t:Tm) (so:Option Addr) (Wa:World) (TV:Int):Prop:= ∀(k:Nat) (s:Int) (wr:World) (hlt:k<t.items.length),Below Wa.heap.size Wa wr->TV=s+zbz ((t.items.drop k).map (zr f)) ->
 ∃b2 off ai ci,so=some ⟨b2,off,none⟩/\b2<wr.heap.size/\wr.cell? ⟨b2,off+k*9,none⟩=some (.int .i64 t.items[k].kind)/\wr.cell? ⟨b2,off+k*9+1,none⟩=some (.int .i64 t.items[k].int) /\
   wr.cell? ⟨b2,off+k*9+2,none⟩=some (.int .i64 t.items[k].gen)/\wr.cell? ⟨b2,off+k*9+3,none⟩=some (.string t.items[k].name)/\wr.cell? ⟨b2,off+k*9+4,none⟩=some (.string t.items[k].func) /\
   wr.cell? ⟨b2,off+k*9+5,none⟩=some (.int .i64 t.items[k].arity)/\wr.cell? ⟨b2,off+k*9+6,none⟩=some (.slice ai t.items[k].items.length ci)/\wr.cell? ⟨b2,off+k*9+7,none⟩=some (.string t.items[k].bytes) /\
   wr.cell? ⟨b2,off+k*9+8,none⟩=some (.int .i64 t.items[k].bits) /\
   (Calls Tryz.prog 132 #[.agg #[.int .i64 t.items[k].kind,.int .i64 t.items[k].int,.int .i64 t.items[k].gen,.string t.items[k].name,.string t.items[k].func,.int .i64 t.items[k].arity,.slice ai t.items[k].items.length ci,.string t.items[k].bytes,.int .i64 t.items[k].bits]] wr fun e w'=>e= .returned (.int .i64 (zr f t.items[k]))/\Below wr.heap.size wr w')/\TV=(s+zr f t.items[k])+zbz ((t.items.drop (k+1)).map (zr f))/\0<=zr f t.items[k]/\(s+zr f t.items[k]<=1152921504606846976)
def zgL (f:Nat) (t:Tm) (so:Option Addr) (w:World):Prop:= ∀(Wa:World),Below w.heap.size w Wa->ziv f t so Wa (zr (f+1) t)
theorem zjO (f:Nat) (t:Tm) (so:zzA) (c:Nat) (w:World) (hsl:SlAt w 9 (TmAt w f) so t.items) (hok:t.Ok) (hform:zh (f+1) t=true) (hcap:(zR (f+1) t:Int)<=1152921504606846976) (hrec:zgL f t so w) (hk:t.kind=9):
  Calls Tryz.prog 132 #[.agg (zzt t so c)] w fun e w'=>e= .returned (.int .i64 (zr (f+1) t))/\Below w.heap.size w w':=by
 unfold zzt;have hwc:=zdS (f+1) t hform;have HTV0:Hid (zr (f+1) t=zbe t+zbz ((t.items.drop 0).map (zr f))):=zzH rfl
 have hown:0<=zbe t/\zbe t<=300+t.items.length:=by
  exact zz158
 have hil:t.items.length<=1152921504606846976:=by
  exact zz159
 have hownc:zbe t<=1152921504606846976:=by
  exact zz160
 have HOWN:Hid (zbe t=(t.items.length:Int)-1):=zzH (by unfold zbe;rw [if_pos hk]);have HKD:=zzH hk;clear hk;have HTV:Hid (zr (f+1) t=((t.items.length:Int)-1)+zbz ((t.items.drop 0).map (zr f))):=zzH (by rw [HTV0.out,HOWN.out]);have HSL:=zzH hsl;have HREC0:=zzH hrec;rw [HOWN.out]at hown hownc;obtain⟨hown0,hown1⟩:=hown;clear hsl hrec hform hcap hwc HTV0;unfold zgL at HREC0;generalize zr (f+1) t=TV at *;go_in;go_upto_region 2 with fail;have hbx:=zb9 w t so c;have hba:Below w.heap.size w (w.alloc (.cells (zzt t so c) 110)):=zzE _ _;generalize w.alloc (.cells (zzt t so c) 110)=Wa at *;have HS:Hid (SlAt Wa 9 (TmAt Wa f) so t.items):=zzH (SlAt.tms HSL.out hba);generalize hBz:w.heap.size=B at *;refine zzK3 hBz hba hbx fun HBZ HBA HBX=>?_;clear hBz hba;have hlb:=zd hbx;have c0:Wa.cell? ⟨B,0,none⟩=some (.int .i64 t.kind):=by rw [zzq0 _ _ _ _ _ _ hbx];rfl
 rw [HKD.out]at c0;have c6:Wa.cell? ⟨B,6,none⟩=some (.slice so t.items.length c):=by rw [zzq0 _ _ _ _ _ _ hbx];rfl
 have c8:Wa.cell? ⟨B,8,none⟩=some (.int .i64 t.bits):=by rw [zzq0 _ _ _ _ _ _ hbx];rfl
 clear hbx;have HFIN:Hid (∀wx,Below Wa.heap.size Wa wx->Below B w wx):=zzH (fun wx hh=>HBA.out.trans (hh.mono (by have:=HBA.out.size;have:=HBZ.out;omega)));have HREC:Hid (ziv f t so Wa TV):=zzH (HREC0.out Wa HBA.out);go_wp2_with fail;go_loopw [3,4] (fun nv iv wr=> ∃(k:Nat) (s:Int),k<=t.items.length/\iv= .int .i64 k/\nv= .int .i64 s/\Hid (TV=s+zbz ((t.items.drop k).map (zr f)))/\0<=s/\s<=1152921504606846976/\Hid (Below Wa.heap.size Wa wr)) (fun _ iv _=>t.items.length-(intOf iv).toNat)
 case atStart=>exact⟨0,((t.items.length:Int)-1),zzZ _,rfl,by go_num,HTV,by omega,by omega,zzH (zzR _ _)⟩
 case round=>
  exact zz157
theorem zk0 (f:Nat) (t:Tm) (so:zzA) (c:Nat) (w:World) (hsl:SlAt w 9 (TmAt w f) so t.items) (hok:t.Ok) (hform:zh (f+1) t=true) (hcap:(zR (f+1) t:Int)<=1152921504606846976) (hrec:zgL f t so w) (hk:t.kind=10):
  Calls Tryz.prog 132 #[.agg (zzt t so c)] w fun e w'=>e= .returned (.int .i64 (zr (f+1) t))/\Below w.heap.size w w':=by
 unfold zzt;have hwc:=zdS (f+1) t hform;have HTV0:Hid (zr (f+1) t=zbe t+zbz ((t.items.drop 0).map (zr f))):=zzH rfl
 have hown:0<=zbe t/\zbe t<=300+t.items.length:=by
  exact zz158
 have hil:t.items.length<=1152921504606846976:=by
  exact zz159
 have hownc:zbe t<=1152921504606846976:=by
  exact zz160
 have HOWN:Hid (zbe t=1+(t.bits+63)/64):=zzH (by unfold zbe;rw [if_neg (by omega),if_pos hk])
 have hbt:0<=t.bits/\t.bits<=16384:=by
  unfold zh at hform;rw [zzq4]at hform;have h:=hform.1;unfold zc0 at h;rw [zzq4]at h;have h:=h.1;unfold okK at h;rw [if_neg (by omega),if_neg (by omega),if_neg (by omega),if_neg (by omega),if_neg (by omega),if_neg (by omega),if_neg (by omega),if_neg (by omega),if_pos hk]at h;unfold zfN zcz at h;rw [zzq4,zzq4]at h;have:=h.1.1;unfold wi at this;rw [zzq4,zzq8,zzq8]at this;exact this
 obtain⟨hbt0,hbt1⟩:=hbt;have HKD:=zzH hk;clear hk;have HTV:Hid (zr (f+1) t=(1+(t.bits+63)/64)+zbz ((t.items.drop 0).map (zr f))):=zzH (by rw [HTV0.out,HOWN.out]);have HSL:=zzH hsl;have HREC0:=zzH hrec;rw [HOWN.out]at hown hownc;obtain⟨hown0,hown1⟩:=hown;clear hsl hrec hform hcap hwc HTV0;unfold zgL at HREC0;generalize zr (f+1) t=TV at *;go_in;go_upto_region 2 with fail;have hbx:=zb9 w t so c;have hba:Below w.heap.size w (w.alloc (.cells (zzt t so c) 110)):=zzE _ _;generalize w.alloc (.cells (zzt t so c) 110)=Wa at *;have HS:Hid (SlAt Wa 9 (TmAt Wa f) so t.items):=zzH (SlAt.tms HSL.out hba);generalize hBz:w.heap.size=B at *;refine zzK3 hBz hba hbx fun HBZ HBA HBX=>?_;clear hBz hba;have hlb:=zd hbx;have c0:Wa.cell? ⟨B,0,none⟩=some (.int .i64 t.kind):=by rw [zzq0 _ _ _ _ _ _ hbx];rfl
 rw [HKD.out]at c0;have c6:Wa.cell? ⟨B,6,none⟩=some (.slice so t.items.length c):=by rw [zzq0 _ _ _ _ _ _ hbx];rfl
 have c8:Wa.cell? ⟨B,8,none⟩=some (.int .i64 t.bits):=by rw [zzq0 _ _ _ _ _ _ hbx];rfl
 clear hbx;have HFIN:Hid (∀wx,Below Wa.heap.size Wa wx->Below B w wx):=zzH (fun wx hh=>HBA.out.trans (hh.mono (by have:=HBA.out.size;have:=HBZ.out;omega)));have HREC:Hid (ziv f t so Wa TV):=zzH (HREC0.out Wa HBA.out);go_wp2_with fail;go_loopw [3,4] (fun nv iv wr=> ∃(k:Nat) (s:Int),k<=t.items.length/\iv= .int .i64 k/\nv= .int .i64 s/\Hid (TV=s+zbz ((t.items.drop k).map (zr f)))/\0<=s/\s<=1152921504606846976/\Hid (Below Wa.heap.size Wa wr)) (fun _ iv _=>t.items.length-(intOf iv).toNat)
 case atStart=>exact⟨0,(1+(t.bits+63)/64),zzZ _,rfl,by go_num,HTV,by omega,by omega,zzH (zzR _ _)⟩
 case round=>
  exact zz157
theorem znA (f:Nat) (t:Tm) (so:zzA) (c:Nat) (w:World) (hsl:SlAt w 9 (TmAt w f) so t.items) (hok:t.Ok) (hform:zh (f+1) t=true) (hcap:(zR (f+1) t:Int)<=1152921504606846976) (hrec:zgL f t so w) (hk9: ¬t.kind=9) (hk10: ¬t.kind=10):
  Calls Tryz.prog 132 #[.agg (zzt t so c)] w fun e w'=>e= .returned (.int .i64 (zr (f+1) t))/\Below w.heap.size w w':=by
 unfold zzt;have hwc:=zdS (f+1) t hform;have HTV0:Hid (zr (f+1) t=zbe t+zbz ((t.items.drop 0).map (zr f))):=zzH rfl
 have hown:0<=zbe t/\zbe t<=300+t.items.length:=by
  exact zz158
 have hil:t.items.length<=1152921504606846976:=by
  exact zz159
 have hownc:zbe t<=1152921504606846976:=by
  exact zz160
 have HOWN:Hid (zbe t=1):=zzH (by unfold zbe;rw [if_neg hk9,if_neg hk10]);have t9:(t.kind==9)=false:=zzB.2 hk9;have t10:(t.kind==10)=false:=zzB.2 hk10;clear hk9 hk10;have HTV:Hid (zr (f+1) t=(1:Int)+zbz ((t.items.drop 0).map (zr f))):=zzH (by rw [HTV0.out,HOWN.out]);have HSL:=zzH hsl;have HREC0:=zzH hrec;rw [HOWN.out]at hown hownc;obtain⟨hown0,hown1⟩:=hown;clear hsl hrec hform hcap hwc HTV0;unfold zgL at HREC0;generalize zr (f+1) t=TV at *;go_in;go_upto_region 2 with fail;have hbx:=zb9 w t so c;have hba:Below w.heap.size w (w.alloc (.cells (zzt t so c) 110)):=zzE _ _;generalize w.alloc (.cells (zzt t so c) 110)=Wa at *;have HS:Hid (SlAt Wa 9 (TmAt Wa f) so t.items):=zzH (SlAt.tms HSL.out hba);generalize hBz:w.heap.size=B at *;refine zzK3 hBz hba hbx fun HBZ HBA HBX=>?_;clear hBz hba;have hlb:=zd hbx;have c0:Wa.cell? ⟨B,0,none⟩=some (.int .i64 t.kind):=by rw [zzq0 _ _ _ _ _ _ hbx];rfl
 have c6:Wa.cell? ⟨B,6,none⟩=some (.slice so t.items.length c):=by rw [zzq0 _ _ _ _ _ _ hbx];rfl
 have c8:Wa.cell? ⟨B,8,none⟩=some (.int .i64 t.bits):=by rw [zzq0 _ _ _ _ _ _ hbx];rfl
 clear hbx;have HFIN:Hid (∀wx,Below Wa.heap.size Wa wx->Below B w wx):=zzH (fun wx hh=>HBA.out.trans (hh.mono (by have:=HBA.out.size;have:=HBZ.out;omega)));have HREC:Hid (ziv f t so Wa TV):=zzH (HREC0.out Wa HBA.out);go_wp2_with fail;go_loopw [3,4] (fun nv iv wr=> ∃(k:Nat) (s:Int),k<=t.items.length/\iv= .int .i64 k/\nv= .int .i64 s/\Hid (TV=s+zbz ((t.items.drop k).map (zr f)))/\0<=s/\s<=1152921504606846976/\Hid (Below Wa.heap.size Wa wr)) (fun _ iv _=>t.items.length-(intOf iv).toNat)
 case atStart=>exact⟨0,(1:Int),zzZ _,rfl,by go_num,HTV,by omega,by omega,zzH (zzR _ _)⟩
 case round=>
  exact zz157
theorem zhc (f:Nat) (IH: ∀f',f=f'+1->ziV f'):ziV f:=by
 intro t so c w hsl hok hform hcap
 have hall:t.items.all (zh f)=true:=by
  unfold zh at hform;rw [zzq4]at hform;exact hform.2
 have hwc:=zdS (f+1) t hform
 have hrec:zgL f t so w:=by
  intro Wa hba k s wr hlt hb hs
  cases f with
  |zero=>rw [hsl.zero]at hlt;exact absurd hlt (zzC _)
  |succ f=>
   obtain⟨b2,off,ai,ci,hao,hb2,q0,q1,q2,q3,q4,q5,q6,q7,q8,hit,hok2⟩:=(SlAt.tms (SlAt.tms hsl hba) hb).tm hlt;have hf2:zh (f+1) t.items[k]=true:=zzp.1 hall _ (zzM hlt)
   have hc2:(zR (f+1) t.items[k]:Int)<=1152921504606846976:=by
    have h1:zR (f+1) t.items[k]<=zb0 (t.items.map (zR (f+1))):=zhS _ _ (List.mem_map.2 ⟨_,zzM hlt,rfl⟩);have h2:zR (f+1+1) t=300+t.items.length+zb0 (t.items.map (zR (f+1))):=rfl;rw [h2]at hcap;omega
   have hd:=zga (f:=f+1) hlt;have hw:=zdS (f+1) _ hf2;have hrest:=zfs (zdS (f+1)) (t.items.drop (k+1)) (zh1 hall (k+1));rw [hd]at hs;exact⟨b2,off,ai,ci,hao,hb2,q0,q1,q2,q3,q4,q5,q6,q7,q8,IH f rfl _ ai ci wr hit hok2 hf2 hc2,by rw [hs];omega,hw.1,by omega⟩
 by_cases h9:t.kind=9
 ·exact zjO f t so c w hsl hok hform hcap hrec h9
 by_cases h10:t.kind=10
 ·exact zk0 f t so c w hsl hok hform hcap hrec h10
 exact znA f t so c w hsl hok hform hcap hrec h9 h10
theorem zno (f:Nat):ziV f:=by
 induction f with
 |zero=>exact zhc 0 (fun f' h=>absurd h (by omega))
 |succ f ih=>exact zhc (f+1) (fun f' h=>by
   have:f'=f:=by omega
   subst this;exact ih)
theorem znO {l:List Tm} (h:l.length-1<l.length):zfF l=l[l.length-1].kind:=by
 unfold zfF;rw [List.getLast?_eq_getElem?,zzq3 h]
def zkS (f:Nat):Prop:= ∀(t:Tm) (so:Option Addr) (c:Nat) (w:World),SlAt w 9 (TmAt w f) so t.items->t.Ok ->
 Calls Tryz.prog 131 #[.agg #[.int .i64 t.kind,.int .i64 t.int,.int .i64 t.gen,.string t.name,.string t.func,.int .i64 t.arity,.slice so t.items.length c,.string t.bytes,.int .i64 t.bits]] w fun e w'=>e= .returned (.bool (zh (f+1) t))/\Below w.heap.size w w'
def zdm (f:Nat) (t:Tm) (so:Option Addr) (Wa:World) (A:Bool):Prop:= ∀(k:Nat) (wr:World) (hlt:k<t.items.length),Below Wa.heap.size Wa wr->A=(t.items.drop k).all (zh f) ->
 ∃b2 off ai ci,so=some ⟨b2,off,none⟩/\b2<wr.heap.size/\wr.cell? ⟨b2,off+k*9,none⟩=some (.int .i64 t.items[k].kind)/\wr.cell? ⟨b2,off+k*9+1,none⟩=some (.int .i64 t.items[k].int)/\wr.cell? ⟨b2,off+k*9+2,none⟩=some (.int .i64 t.items[k].gen)/\wr.cell? ⟨b2,off+k*9+3,none⟩=some (.string t.items[k].name)/\wr.cell? ⟨b2,off+k*9+4,none⟩=some (.string t.items[k].func)/\wr.cell? ⟨b2,off+k*9+5,none⟩=some (.int .i64 t.items[k].arity)/\wr.cell? ⟨b2,off+k*9+6,none⟩=some (.slice ai t.items[k].items.length ci)/\wr.cell? ⟨b2,off+k*9+7,none⟩=some (.string t.items[k].bytes)/\wr.cell? ⟨b2,off+k*9+8,none⟩=some (.int .i64 t.items[k].bits)/\ ∃r,(Calls Tryz.prog 131 #[.agg #[.int .i64 t.items[k].kind,.int .i64 t.items[k].int,.int .i64 t.items[k].gen,.string t.items[k].name,.string t.items[k].func,.int .i64 t.items[k].arity,.slice ai t.items[k].items.length ci,.string t.items[k].bytes,.int .i64 t.items[k].bits]] wr fun e w'=>e= .returned (.bool r)/\Below wr.heap.size wr w')/\A=(r&&(t.items.drop (k+1)).all (zh f))
def zcT (f:Nat) (t:Tm) (so:Option Addr) (w:World):Prop:= ∀(Wa:World),Below w.heap.size w Wa->zdm f t so Wa (t.items.all (zh f))
theorem znw (f:Nat) (t:Tm) (so:zzA) (c:Nat) (w:World) (hok:t.Ok) (hrec:zcT f t so w) (hz:zbB 0 (zf t).int (zf t).gen (zf t).name (zf t).func (zf t).arity (zf t).items.length (zf t).bytes (zf t).bits=false):
  Calls Tryz.prog 131 #[.agg (zzt t so c)] w fun e w'=>e= .returned (.bool (zh (f+1) t))/\Below w.heap.size w w':=by
 unfold zzt;obtain⟨ok0,ok1,ok2,ok3,ok4,ok5,ok6,ok7,ok8⟩:=hok;unfold maxLen at ok3 ok4 ok6 ok7;have HE:Hid (zh (f+1) t=((okK t&&zbB 0 (zf t).int (zf t).gen (zf t).name (zf t).func (zf t).arity (zf t).items.length (zf t).bytes (zf t).bits)&&t.items.all (zh f))):=zzH (by rw [zc2];rfl);have hZ:=fun so' c' wx=>zct 0 (zf t).int (zf t).gen (zf t).name (zf t).func (zf t).arity so' (zf t).items.length c' (zf t).bytes (zf t).bits wx (zzY (zcm t) (by omega))
 have hB:=fun wx=>zcu t so c wx
 unfold zdW at hB;generalize zbB 0 (zf t).int (zf t).gen (zf t).name (zf t).func (zf t).arity (zf t).items.length (zf t).bytes (zf t).bits=Z at *;generalize zf t=q at *;have HREC0:=zzH hrec;clear hrec;generalize zh (f+1) t=R at *;subst hz;go_in;go_upto_region 1 with fail;have hbx:=zb9 w t so c;have hba:Below w.heap.size w (w.alloc (.cells (zzt t so c) 110)):=zzE _ _;generalize w.alloc (.cells (zzt t so c) 110)=Wa at *;have HREC:Hid (zdm f t so Wa (t.items.all (zh f))):=zzH (HREC0.out Wa hba);clear HREC0;generalize hBz:w.heap.size=B at *;refine zzK3 hBz hba hbx fun HBZ HBA HBX=>?_;clear hBz hba;have hlb:=zd hbx;obtain ⟨c0,c1,c2,c3,c4,c5,c6,c7,c8⟩:=zzc9 hbx;clear hbx;have HFIN:Hid (∀wx,Below Wa.heap.size Wa wx->Below B w wx):=zzH (fun wx hh=>HBA.out.trans (hh.mono (by have:=HBA.out.size;have:=HBZ.out;omega)));go_wp2_with fail;refine(hB _).mono ?_;rintro e w1 ⟨so',c',rfl,hb1⟩;go_wp2_with fail;refine(hZ so' c' _).mono ?_;rintro e w2 ⟨rfl,hb2⟩;clear hZ hB;have HB2:Hid (Below Wa.heap.size Wa w2):=zzH (ze hb1 hb2);clear hb1 hb2;go_wp2;go_ret;exact⟨zl (by rw [HE.out];cases okK t<;>rfl),by rw [HBZ.out];exact HFIN.out _ HB2.out⟩
theorem zn7 (f:Nat) (t:Tm) (so:zzA) (c:Nat) (w:World) (hok:t.Ok) (hrec:zcT f t so w) (hz:zbB 0 (zf t).int (zf t).gen (zf t).name (zf t).func (zf t).arity (zf t).items.length (zf t).bytes (zf t).bits=true) (hkd:t.kind=1):
  Calls Tryz.prog 131 #[.agg (zzt t so c)] w fun e w'=>e= .returned (.bool (zh (f+1) t))/\Below w.heap.size w w':=by
 unfold zzt;have HKD:=zzH hkd;clear hkd;obtain⟨ok0,ok1,ok2,ok3,ok4,ok5,ok6,ok7,ok8⟩:=hok;unfold maxLen at ok3 ok4 ok6 ok7;have HE:Hid (zh (f+1) t=((okK t&&zbB 0 (zf t).int (zf t).gen (zf t).name (zf t).func (zf t).arity (zf t).items.length (zf t).bytes (zf t).bits)&&t.items.all (zh f))):=zzH (by rw [zc2];rfl);have hZ:=fun so' c' wx=>zct 0 (zf t).int (zf t).gen (zf t).name (zf t).func (zf t).arity so' (zf t).items.length c' (zf t).bytes (zf t).bits wx (zzY (zcm t) (by omega))
 have hB:=fun wx=>zcu t so c wx
 unfold zdW at hB;generalize zbB 0 (zf t).int (zf t).gen (zf t).name (zf t).func (zf t).arity (zf t).items.length (zf t).bytes (zf t).bits=Z at *;generalize zf t=q at *;have HREC0:=zzH hrec;clear hrec;generalize zh (f+1) t=R at *;subst hz;go_in;go_upto_region 1 with fail;have hbx:=zb9 w t so c;have hba:Below w.heap.size w (w.alloc (.cells (zzt t so c) 110)):=zzE _ _;generalize w.alloc (.cells (zzt t so c) 110)=Wa at *;have HREC:Hid (zdm f t so Wa (t.items.all (zh f))):=zzH (HREC0.out Wa hba);clear HREC0;generalize hBz:w.heap.size=B at *;refine zzK3 hBz hba hbx fun HBZ HBA HBX=>?_;clear hBz hba;have hlb:=zd hbx;obtain ⟨c0,c1,c2,c3,c4,c5,c6,c7,c8⟩:=zzc9 hbx;clear hbx;have HFIN:Hid (∀wx,Below Wa.heap.size Wa wx->Below B w wx):=zzH (fun wx hh=>HBA.out.trans (hh.mono (by have:=HBA.out.size;have:=HBZ.out;omega)));go_wp2_with fail;refine(hB _).mono ?_;rintro e w1 ⟨so',c',rfl,hb1⟩;go_wp2_with fail;refine(hZ so' c' _).mono ?_;rintro e w2 ⟨rfl,hb2⟩;clear hZ hB;have HB2:Hid (Below Wa.heap.size Wa w2):=zzH (ze hb1 hb2);clear hb1 hb2;have HET:Hid (∀A,t.items.all (zh f)=A->R=(okK t&&A)):=zzH (fun A h=>by rw [HE.out,h,Bool.and_true]);clear HE;have HAK:Hid (t.items.all (zh f)=(t.items.drop 0).all (zh f)):=zzH rfl;generalize t.items.all (zh f)=A at HREC HET HAK;go_wp2_with fail;go_loopw [3] (fun iv wr=> ∃(k:Nat),k<=t.items.length/\iv= .int .i64 k/\Hid (A=(t.items.drop k).all (zh f))/\Hid (Below Wa.heap.size Wa wr)) (fun iv _=>t.items.length-(intOf iv).toNat)
 case atStart=>exact⟨0,zzZ _,rfl,HAK,HB2⟩
 case round=>
  exact zz161
theorem zoN (f:Nat) (t:Tm) (so:zzA) (c:Nat) (w:World) (hok:t.Ok) (hrec:zcT f t so w) (hz:zbB 0 (zf t).int (zf t).gen (zf t).name (zf t).func (zf t).arity (zf t).items.length (zf t).bytes (zf t).bits=true) (hkd:t.kind=8):
  Calls Tryz.prog 131 #[.agg (zzt t so c)] w fun e w'=>e= .returned (.bool (zh (f+1) t))/\Below w.heap.size w w':=by
 unfold zzt;have HKD:=zzH hkd;clear hkd;obtain⟨ok0,ok1,ok2,ok3,ok4,ok5,ok6,ok7,ok8⟩:=hok;unfold maxLen at ok3 ok4 ok6 ok7;have HE:Hid (zh (f+1) t=((okK t&&zbB 0 (zf t).int (zf t).gen (zf t).name (zf t).func (zf t).arity (zf t).items.length (zf t).bytes (zf t).bits)&&t.items.all (zh f))):=zzH (by rw [zc2];rfl);have hZ:=fun so' c' wx=>zct 0 (zf t).int (zf t).gen (zf t).name (zf t).func (zf t).arity so' (zf t).items.length c' (zf t).bytes (zf t).bits wx (zzY (zcm t) (by omega))
 have hB:=fun wx=>zcu t so c wx
 unfold zdW at hB;generalize zbB 0 (zf t).int (zf t).gen (zf t).name (zf t).func (zf t).arity (zf t).items.length (zf t).bytes (zf t).bits=Z at *;generalize zf t=q at *;have HREC0:=zzH hrec;clear hrec;generalize zh (f+1) t=R at *;subst hz;go_in;go_upto_region 1 with fail;have hbx:=zb9 w t so c;have hba:Below w.heap.size w (w.alloc (.cells (zzt t so c) 110)):=zzE _ _;generalize w.alloc (.cells (zzt t so c) 110)=Wa at *;have HREC:Hid (zdm f t so Wa (t.items.all (zh f))):=zzH (HREC0.out Wa hba);clear HREC0;generalize hBz:w.heap.size=B at *;refine zzK3 hBz hba hbx fun HBZ HBA HBX=>?_;clear hBz hba;have hlb:=zd hbx;obtain ⟨c0,c1,c2,c3,c4,c5,c6,c7,c8⟩:=zzc9 hbx;clear hbx;have HFIN:Hid (∀wx,Below Wa.heap.size Wa wx->Below B w wx):=zzH (fun wx hh=>HBA.out.trans (hh.mono (by have:=HBA.out.size;have:=HBZ.out;omega)));go_wp2_with fail;refine(hB _).mono ?_;rintro e w1 ⟨so',c',rfl,hb1⟩;go_wp2_with fail;refine(hZ so' c' _).mono ?_;rintro e w2 ⟨rfl,hb2⟩;clear hZ hB;have HB2:Hid (Below Wa.heap.size Wa w2):=zzH (ze hb1 hb2);clear hb1 hb2;have HET:Hid (∀A,t.items.all (zh f)=A->R=(okK t&&A)):=zzH (fun A h=>by rw [HE.out,h,Bool.and_true]);clear HE;have HAK:Hid (t.items.all (zh f)=(t.items.drop 0).all (zh f)):=zzH rfl;generalize t.items.all (zh f)=A at HREC HET HAK;go_wp2_with fail;go_loopw [3] (fun iv wr=> ∃(k:Nat),k<=t.items.length/\iv= .int .i64 k/\Hid (A=(t.items.drop k).all (zh f))/\Hid (Below Wa.heap.size Wa wr)) (fun iv _=>t.items.length-(intOf iv).toNat)
 case atStart=>exact⟨0,zzZ _,rfl,HAK,HB2⟩
 case round=>
  exact zz161
theorem zmt (f:Nat) (t:Tm) (so:zzA) (c:Nat) (w:World) (hok:t.Ok) (hrec:zcT f t so w) (hz:zbB 0 (zf t).int (zf t).gen (zf t).name (zf t).func (zf t).arity (zf t).items.length (zf t).bytes (zf t).bits=true) (hkd:t.kind=2):
  Calls Tryz.prog 131 #[.agg (zzt t so c)] w fun e w'=>e= .returned (.bool (zh (f+1) t))/\Below w.heap.size w w':=by
 unfold zzt;have HKD:=zzH hkd;clear hkd;obtain⟨ok0,ok1,ok2,ok3,ok4,ok5,ok6,ok7,ok8⟩:=hok;unfold maxLen at ok3 ok4 ok6 ok7;have HE:Hid (zh (f+1) t=((okK t&&zbB 0 (zf t).int (zf t).gen (zf t).name (zf t).func (zf t).arity (zf t).items.length (zf t).bytes (zf t).bits)&&t.items.all (zh f))):=zzH (by rw [zc2];rfl);have hZ:=fun so' c' wx=>zct 0 (zf t).int (zf t).gen (zf t).name (zf t).func (zf t).arity so' (zf t).items.length c' (zf t).bytes (zf t).bits wx (zzY (zcm t) (by omega))
 have hB:=fun wx=>zcu t so c wx
 unfold zdW at hB;generalize zbB 0 (zf t).int (zf t).gen (zf t).name (zf t).func (zf t).arity (zf t).items.length (zf t).bytes (zf t).bits=Z at *;generalize zf t=q at *;have HREC0:=zzH hrec;clear hrec;generalize zh (f+1) t=R at *;subst hz;go_in;go_upto_region 1 with fail;have hbx:=zb9 w t so c;have hba:Below w.heap.size w (w.alloc (.cells (zzt t so c) 110)):=zzE _ _;generalize w.alloc (.cells (zzt t so c) 110)=Wa at *;have HREC:Hid (zdm f t so Wa (t.items.all (zh f))):=zzH (HREC0.out Wa hba);clear HREC0;generalize hBz:w.heap.size=B at *;refine zzK3 hBz hba hbx fun HBZ HBA HBX=>?_;clear hBz hba;have hlb:=zd hbx;obtain ⟨c0,c1,c2,c3,c4,c5,c6,c7,c8⟩:=zzc9 hbx;clear hbx;have HFIN:Hid (∀wx,Below Wa.heap.size Wa wx->Below B w wx):=zzH (fun wx hh=>HBA.out.trans (hh.mono (by have:=HBA.out.size;have:=HBZ.out;omega)));go_wp2_with fail;refine(hB _).mono ?_;rintro e w1 ⟨so',c',rfl,hb1⟩;go_wp2_with fail;refine(hZ so' c' _).mono ?_;rintro e w2 ⟨rfl,hb2⟩;clear hZ hB;have HB2:Hid (Below Wa.heap.size Wa w2):=zzH (ze hb1 hb2);clear hb1 hb2;have HET:Hid (∀A,t.items.all (zh f)=A->R=(okK t&&A)):=zzH (fun A h=>by rw [HE.out,h,Bool.and_true]);clear HE;have HAK:Hid (t.items.all (zh f)=(t.items.drop 0).all (zh f)):=zzH rfl;generalize t.items.all (zh f)=A at HREC HET HAK;go_wp2_with fail;go_loopw [3] (fun iv wr=> ∃(k:Nat),k<=t.items.length/\iv= .int .i64 k/\Hid (A=(t.items.drop k).all (zh f))/\Hid (Below Wa.heap.size Wa wr)) (fun iv _=>t.items.length-(intOf iv).toNat)
 case atStart=>exact⟨0,zzZ _,rfl,HAK,HB2⟩
 case round=>
  obtain⟨k,hk,rfl,HK,HBk⟩:=hrel;rename World=>wr
  clear c0 c1 c2 c3 c4 c5 c6 c7 c8;have hb1:=(HBk.out.block B (zd HBX.out)).trans HBX.out;have hlb1:=zd hb1;obtain ⟨c0,c1,c2,c3,c4,c5,c6,c7,c8⟩:=zzc9 hb1;clear hb1;by_cases hlt:k<t.items.length
  ·exact zz162
  ·have E:Hid (R=okK t):=zzH (by rw [HET.out A rfl,HK.out,zzq10 (by omega)];simp)
   have hkd:=HKD.out;have hE:=E.out;have e2:okK t=(zy t.name):=by unfold okK;simp [hkd,Bool.and_assoc]
   rw [e2]at hE;rw [hkd]at c0;clear e2 E HKD hkd;have h0:=fun wx=>zdv t.name wx (by unfold maxLen;omega)
   generalize zy t.name=b0 at *;have E:=zzH hE;clear hE;go_wp2_with (first|(go_at_call 71;first|((with_reducible refine(h0 _).mono ?_);rintro e w9 ⟨rfl,rfl⟩)));go_ret;exact⟨zl (by rw [E.out];try simp),by rw [HBZ.out];exact HFIN.out _ HBk.out⟩
theorem zos (f:Nat) (t:Tm) (so:zzA) (c:Nat) (w:World) (hok:t.Ok) (hrec:zcT f t so w) (hz:zbB 0 (zf t).int (zf t).gen (zf t).name (zf t).func (zf t).arity (zf t).items.length (zf t).bytes (zf t).bits=true) (hkd:t.kind=3):
  Calls Tryz.prog 131 #[.agg (zzt t so c)] w fun e w'=>e= .returned (.bool (zh (f+1) t))/\Below w.heap.size w w':=by
 unfold zzt;have HKD:=zzH hkd;clear hkd;obtain⟨ok0,ok1,ok2,ok3,ok4,ok5,ok6,ok7,ok8⟩:=hok;unfold maxLen at ok3 ok4 ok6 ok7;have HE:Hid (zh (f+1) t=((okK t&&zbB 0 (zf t).int (zf t).gen (zf t).name (zf t).func (zf t).arity (zf t).items.length (zf t).bytes (zf t).bits)&&t.items.all (zh f))):=zzH (by rw [zc2];rfl);have hZ:=fun so' c' wx=>zct 0 (zf t).int (zf t).gen (zf t).name (zf t).func (zf t).arity so' (zf t).items.length c' (zf t).bytes (zf t).bits wx (zzY (zcm t) (by omega))
 have hB:=fun wx=>zcu t so c wx
 unfold zdW at hB;generalize zbB 0 (zf t).int (zf t).gen (zf t).name (zf t).func (zf t).arity (zf t).items.length (zf t).bytes (zf t).bits=Z at *;generalize zf t=q at *;have HREC0:=zzH hrec;clear hrec;generalize zh (f+1) t=R at *;subst hz;go_in;go_upto_region 1 with fail;have hbx:=zb9 w t so c;have hba:Below w.heap.size w (w.alloc (.cells (zzt t so c) 110)):=zzE _ _;generalize w.alloc (.cells (zzt t so c) 110)=Wa at *;have HREC:Hid (zdm f t so Wa (t.items.all (zh f))):=zzH (HREC0.out Wa hba);clear HREC0;generalize hBz:w.heap.size=B at *;refine zzK3 hBz hba hbx fun HBZ HBA HBX=>?_;clear hBz hba;have hlb:=zd hbx;obtain ⟨c0,c1,c2,c3,c4,c5,c6,c7,c8⟩:=zzc9 hbx;clear hbx;have HFIN:Hid (∀wx,Below Wa.heap.size Wa wx->Below B w wx):=zzH (fun wx hh=>HBA.out.trans (hh.mono (by have:=HBA.out.size;have:=HBZ.out;omega)));go_wp2_with fail;refine(hB _).mono ?_;rintro e w1 ⟨so',c',rfl,hb1⟩;go_wp2_with fail;refine(hZ so' c' _).mono ?_;rintro e w2 ⟨rfl,hb2⟩;clear hZ hB;have HB2:Hid (Below Wa.heap.size Wa w2):=zzH (ze hb1 hb2);clear hb1 hb2;have HET:Hid (∀A,t.items.all (zh f)=A->R=(okK t&&A)):=zzH (fun A h=>by rw [HE.out,h,Bool.and_true]);clear HE;have HAK:Hid (t.items.all (zh f)=(t.items.drop 0).all (zh f)):=zzH rfl;generalize t.items.all (zh f)=A at HREC HET HAK;go_wp2_with fail;go_loopw [3] (fun iv wr=> ∃(k:Nat),k<=t.items.length/\iv= .int .i64 k/\Hid (A=(t.items.drop k).all (zh f))/\Hid (Below Wa.heap.size Wa wr)) (fun iv _=>t.items.length-(intOf iv).toNat)
 case atStart=>exact⟨0,zzZ _,rfl,HAK,HB2⟩
 case round=>
  exact zz163
theorem znW (f:Nat) (t:Tm) (so:zzA) (c:Nat) (w:World) (hok:t.Ok) (hrec:zcT f t so w) (hz:zbB 0 (zf t).int (zf t).gen (zf t).name (zf t).func (zf t).arity (zf t).items.length (zf t).bytes (zf t).bits=true) (hkd:t.kind=6):
  Calls Tryz.prog 131 #[.agg (zzt t so c)] w fun e w'=>e= .returned (.bool (zh (f+1) t))/\Below w.heap.size w w':=by
 unfold zzt;have HKD:=zzH hkd;clear hkd;obtain⟨ok0,ok1,ok2,ok3,ok4,ok5,ok6,ok7,ok8⟩:=hok;unfold maxLen at ok3 ok4 ok6 ok7;have HE:Hid (zh (f+1) t=((okK t&&zbB 0 (zf t).int (zf t).gen (zf t).name (zf t).func (zf t).arity (zf t).items.length (zf t).bytes (zf t).bits)&&t.items.all (zh f))):=zzH (by rw [zc2];rfl);have hZ:=fun so' c' wx=>zct 0 (zf t).int (zf t).gen (zf t).name (zf t).func (zf t).arity so' (zf t).items.length c' (zf t).bytes (zf t).bits wx (zzY (zcm t) (by omega))
 have hB:=fun wx=>zcu t so c wx
 unfold zdW at hB;generalize zbB 0 (zf t).int (zf t).gen (zf t).name (zf t).func (zf t).arity (zf t).items.length (zf t).bytes (zf t).bits=Z at *;generalize zf t=q at *;have HREC0:=zzH hrec;clear hrec;generalize zh (f+1) t=R at *;subst hz;go_in;go_upto_region 1 with fail;have hbx:=zb9 w t so c;have hba:Below w.heap.size w (w.alloc (.cells (zzt t so c) 110)):=zzE _ _;generalize w.alloc (.cells (zzt t so c) 110)=Wa at *;have HREC:Hid (zdm f t so Wa (t.items.all (zh f))):=zzH (HREC0.out Wa hba);clear HREC0;generalize hBz:w.heap.size=B at *;refine zzK3 hBz hba hbx fun HBZ HBA HBX=>?_;clear hBz hba;have hlb:=zd hbx;obtain ⟨c0,c1,c2,c3,c4,c5,c6,c7,c8⟩:=zzc9 hbx;clear hbx;have HFIN:Hid (∀wx,Below Wa.heap.size Wa wx->Below B w wx):=zzH (fun wx hh=>HBA.out.trans (hh.mono (by have:=HBA.out.size;have:=HBZ.out;omega)));go_wp2_with fail;refine(hB _).mono ?_;rintro e w1 ⟨so',c',rfl,hb1⟩;go_wp2_with fail;refine(hZ so' c' _).mono ?_;rintro e w2 ⟨rfl,hb2⟩;clear hZ hB;have HB2:Hid (Below Wa.heap.size Wa w2):=zzH (ze hb1 hb2);clear hb1 hb2;have HET:Hid (∀A,t.items.all (zh f)=A->R=(okK t&&A)):=zzH (fun A h=>by rw [HE.out,h,Bool.and_true]);clear HE;have HAK:Hid (t.items.all (zh f)=(t.items.drop 0).all (zh f)):=zzH rfl;generalize t.items.all (zh f)=A at HREC HET HAK;go_wp2_with fail;go_loopw [3] (fun iv wr=> ∃(k:Nat),k<=t.items.length/\iv= .int .i64 k/\Hid (A=(t.items.drop k).all (zh f))/\Hid (Below Wa.heap.size Wa wr)) (fun iv _=>t.items.length-(intOf iv).toNat)
 case atStart=>exact⟨0,zzZ _,rfl,HAK,HB2⟩
 case round=>
  exact zz163
theorem zj3 (f:Nat) (t:Tm) (so:zzA) (c:Nat) (w:World) (hok:t.Ok) (hrec:zcT f t so w) (hz:zbB 0 (zf t).int (zf t).gen (zf t).name (zf t).func (zf t).arity (zf t).items.length (zf t).bytes (zf t).bits=true) (hkd:t.kind=5):
  Calls Tryz.prog 131 #[.agg (zzt t so c)] w fun e w'=>e= .returned (.bool (zh (f+1) t))/\Below w.heap.size w w':=by
 unfold zzt;have HKD:=zzH hkd;clear hkd;obtain⟨ok0,ok1,ok2,ok3,ok4,ok5,ok6,ok7,ok8⟩:=hok;unfold maxLen at ok3 ok4 ok6 ok7;have HE:Hid (zh (f+1) t=((okK t&&zbB 0 (zf t).int (zf t).gen (zf t).name (zf t).func (zf t).arity (zf t).items.length (zf t).bytes (zf t).bits)&&t.items.all (zh f))):=zzH (by rw [zc2];rfl);have hZ:=fun so' c' wx=>zct 0 (zf t).int (zf t).gen (zf t).name (zf t).func (zf t).arity so' (zf t).items.length c' (zf t).bytes (zf t).bits wx (zzY (zcm t) (by omega))
 have hB:=fun wx=>zcu t so c wx
 unfold zdW at hB;generalize zbB 0 (zf t).int (zf t).gen (zf t).name (zf t).func (zf t).arity (zf t).items.length (zf t).bytes (zf t).bits=Z at *;generalize zf t=q at *;have HREC0:=zzH hrec;clear hrec;generalize zh (f+1) t=R at *;subst hz;go_in;go_upto_region 1 with fail;have hbx:=zb9 w t so c;have hba:Below w.heap.size w (w.alloc (.cells (zzt t so c) 110)):=zzE _ _;generalize w.alloc (.cells (zzt t so c) 110)=Wa at *;have HREC:Hid (zdm f t so Wa (t.items.all (zh f))):=zzH (HREC0.out Wa hba);clear HREC0;generalize hBz:w.heap.size=B at *;refine zzK3 hBz hba hbx fun HBZ HBA HBX=>?_;clear hBz hba;have hlb:=zd hbx;obtain ⟨c0,c1,c2,c3,c4,c5,c6,c7,c8⟩:=zzc9 hbx;clear hbx;have HFIN:Hid (∀wx,Below Wa.heap.size Wa wx->Below B w wx):=zzH (fun wx hh=>HBA.out.trans (hh.mono (by have:=HBA.out.size;have:=HBZ.out;omega)));go_wp2_with fail;refine(hB _).mono ?_;rintro e w1 ⟨so',c',rfl,hb1⟩;go_wp2_with fail;refine(hZ so' c' _).mono ?_;rintro e w2 ⟨rfl,hb2⟩;clear hZ hB;have HB2:Hid (Below Wa.heap.size Wa w2):=zzH (ze hb1 hb2);clear hb1 hb2;have HET:Hid (∀A,t.items.all (zh f)=A->R=(okK t&&A)):=zzH (fun A h=>by rw [HE.out,h,Bool.and_true]);clear HE;have HAK:Hid (t.items.all (zh f)=(t.items.drop 0).all (zh f)):=zzH rfl;generalize t.items.all (zh f)=A at HREC HET HAK;go_wp2_with fail;go_loopw [3] (fun iv wr=> ∃(k:Nat),k<=t.items.length/\iv= .int .i64 k/\Hid (A=(t.items.drop k).all (zh f))/\Hid (Below Wa.heap.size Wa wr)) (fun iv _=>t.items.length-(intOf iv).toNat)
 case atStart=>exact⟨0,zzZ _,rfl,HAK,HB2⟩
 case round=>
  obtain⟨k,hk,rfl,HK,HBk⟩:=hrel;rename World=>wr
  clear c0 c1 c2 c3 c4 c5 c6 c7 c8;have hb1:=(HBk.out.block B (zd HBX.out)).trans HBX.out;have hlb1:=zd hb1;obtain ⟨c0,c1,c2,c3,c4,c5,c6,c7,c8⟩:=zzc9 hb1;clear hb1;by_cases hlt:k<t.items.length
  ·exact zz162
  ·have E:Hid (R=okK t):=zzH (by rw [HET.out A rfl,HK.out,zzq10 (by omega)];simp)
   have hkd:=HKD.out;have hE:=E.out;have e2:okK t=(zy t.name&&zy t.func&&wi t.arity 0 16):=by unfold okK;simp [hkd,Bool.and_assoc]
   rw [e2]at hE;rw [hkd]at c0;clear e2 E HKD hkd;have h0:=fun wx=>zdv t.name wx (by unfold maxLen;omega)
   have h1:=fun wx=>zdv t.func wx (by unfold maxLen;omega)
   have h2:=fun wx=>zdn t.arity 0 16 wx
   generalize zy t.name=b0 at *;generalize zy t.func=b1 at *;generalize wi t.arity 0 16=b2 at *;have E:=zzH hE;clear hE
   cases b0 with
   |false=>
    exact zz164
   |true=>
    cases b1 with
    |false=>
     exact zz164
    |true=>
     exact zz164
theorem zmg (f:Nat) (t:Tm) (so:zzA) (c:Nat) (w:World) (hok:t.Ok) (hrec:zcT f t so w) (hz:zbB 0 (zf t).int (zf t).gen (zf t).name (zf t).func (zf t).arity (zf t).items.length (zf t).bytes (zf t).bits=true) (hkd:t.kind=10):
  Calls Tryz.prog 131 #[.agg (zzt t so c)] w fun e w'=>e= .returned (.bool (zh (f+1) t))/\Below w.heap.size w w':=by
 unfold zzt;have HKD:=zzH hkd;clear hkd;obtain⟨ok0,ok1,ok2,ok3,ok4,ok5,ok6,ok7,ok8⟩:=hok;unfold maxLen at ok3 ok4 ok6 ok7;have HE:Hid (zh (f+1) t=((okK t&&zbB 0 (zf t).int (zf t).gen (zf t).name (zf t).func (zf t).arity (zf t).items.length (zf t).bytes (zf t).bits)&&t.items.all (zh f))):=zzH (by rw [zc2];rfl);have hZ:=fun so' c' wx=>zct 0 (zf t).int (zf t).gen (zf t).name (zf t).func (zf t).arity so' (zf t).items.length c' (zf t).bytes (zf t).bits wx (zzY (zcm t) (by omega))
 have hB:=fun wx=>zcu t so c wx
 unfold zdW at hB;generalize zbB 0 (zf t).int (zf t).gen (zf t).name (zf t).func (zf t).arity (zf t).items.length (zf t).bytes (zf t).bits=Z at *;generalize zf t=q at *;have HREC0:=zzH hrec;clear hrec;generalize zh (f+1) t=R at *;subst hz;go_in;go_upto_region 1 with fail;have hbx:=zb9 w t so c;have hba:Below w.heap.size w (w.alloc (.cells (zzt t so c) 110)):=zzE _ _;generalize w.alloc (.cells (zzt t so c) 110)=Wa at *;have HREC:Hid (zdm f t so Wa (t.items.all (zh f))):=zzH (HREC0.out Wa hba);clear HREC0;generalize hBz:w.heap.size=B at *;refine zzK3 hBz hba hbx fun HBZ HBA HBX=>?_;clear hBz hba;have hlb:=zd hbx;obtain ⟨c0,c1,c2,c3,c4,c5,c6,c7,c8⟩:=zzc9 hbx;clear hbx;have HFIN:Hid (∀wx,Below Wa.heap.size Wa wx->Below B w wx):=zzH (fun wx hh=>HBA.out.trans (hh.mono (by have:=HBA.out.size;have:=HBZ.out;omega)));go_wp2_with fail;refine(hB _).mono ?_;rintro e w1 ⟨so',c',rfl,hb1⟩;go_wp2_with fail;refine(hZ so' c' _).mono ?_;rintro e w2 ⟨rfl,hb2⟩;clear hZ hB;have HB2:Hid (Below Wa.heap.size Wa w2):=zzH (ze hb1 hb2);clear hb1 hb2;have HET:Hid (∀A,t.items.all (zh f)=A->R=(okK t&&A)):=zzH (fun A h=>by rw [HE.out,h,Bool.and_true]);clear HE;have HAK:Hid (t.items.all (zh f)=(t.items.drop 0).all (zh f)):=zzH rfl;generalize t.items.all (zh f)=A at HREC HET HAK;go_wp2_with fail;go_loopw [3] (fun iv wr=> ∃(k:Nat),k<=t.items.length/\iv= .int .i64 k/\Hid (A=(t.items.drop k).all (zh f))/\Hid (Below Wa.heap.size Wa wr)) (fun iv _=>t.items.length-(intOf iv).toNat)
 case atStart=>exact⟨0,zzZ _,rfl,HAK,HB2⟩
 case round=>
  obtain⟨k,hk,rfl,HK,HBk⟩:=hrel;rename World=>wr
  clear c0 c1 c2 c3 c4 c5 c6 c7 c8;have hb1:=(HBk.out.block B (zd HBX.out)).trans HBX.out;have hlb1:=zd hb1;obtain ⟨c0,c1,c2,c3,c4,c5,c6,c7,c8⟩:=zzc9 hb1;clear hb1;by_cases hlt:k<t.items.length
  ·exact zz162
  ·have E:Hid (R=okK t):=zzH (by rw [HET.out A rfl,HK.out,zzq10 (by omega)];simp)
   have hkd:=HKD.out;have e2:okK t=zcz t.bytes t.bits:=by unfold okK zfN;simp [hkd]
   rw [hkd]at c0;have E2:=zzH (E.out.trans e2);clear E HKD hkd e2;go_wp2_with fail;refine(zm0 _ _ _ _ _ _ _ _ _ _ _ _ ok7 ok8).mono ?_;rintro e9 w7 ⟨rfl,hb7⟩;go_wp2;go_ret;exact⟨zl E2.out.symm,by rw [HBZ.out];exact HFIN.out _ (ze HBk.out hb7)⟩
theorem zli (f:Nat) (t:Tm) (so:zzA) (c:Nat) (w:World) (hok:t.Ok) (hrec:zcT f t so w) (hz:zbB 0 (zf t).int (zf t).gen (zf t).name (zf t).func (zf t).arity (zf t).items.length (zf t).bytes (zf t).bits=true) (hkd: ¬(t.kind=1\/t.kind=2\/t.kind=3\/t.kind=4\/t.kind=5\/t.kind=6\/t.kind=7\/t.kind=8\/t.kind=9\/t.kind=10)):
  Calls Tryz.prog 131 #[.agg (zzt t so c)] w fun e w'=>e= .returned (.bool (zh (f+1) t))/\Below w.heap.size w w':=by
 unfold zzt;have HKD:=zzH hkd;clear hkd;obtain⟨ok0,ok1,ok2,ok3,ok4,ok5,ok6,ok7,ok8⟩:=hok;unfold maxLen at ok3 ok4 ok6 ok7;have HE:Hid (zh (f+1) t=((okK t&&zbB 0 (zf t).int (zf t).gen (zf t).name (zf t).func (zf t).arity (zf t).items.length (zf t).bytes (zf t).bits)&&t.items.all (zh f))):=zzH (by rw [zc2];rfl);have hZ:=fun so' c' wx=>zct 0 (zf t).int (zf t).gen (zf t).name (zf t).func (zf t).arity so' (zf t).items.length c' (zf t).bytes (zf t).bits wx (zzY (zcm t) (by omega))
 have hB:=fun wx=>zcu t so c wx
 unfold zdW at hB;generalize zbB 0 (zf t).int (zf t).gen (zf t).name (zf t).func (zf t).arity (zf t).items.length (zf t).bytes (zf t).bits=Z at *;generalize zf t=q at *;have HREC0:=zzH hrec;clear hrec;generalize zh (f+1) t=R at *;subst hz;go_in;go_upto_region 1 with fail;have hbx:=zb9 w t so c;have hba:Below w.heap.size w (w.alloc (.cells (zzt t so c) 110)):=zzE _ _;generalize w.alloc (.cells (zzt t so c) 110)=Wa at *;have HREC:Hid (zdm f t so Wa (t.items.all (zh f))):=zzH (HREC0.out Wa hba);clear HREC0;generalize hBz:w.heap.size=B at *;refine zzK3 hBz hba hbx fun HBZ HBA HBX=>?_;clear hBz hba;have hlb:=zd hbx;obtain ⟨c0,c1,c2,c3,c4,c5,c6,c7,c8⟩:=zzc9 hbx;clear hbx;have HFIN:Hid (∀wx,Below Wa.heap.size Wa wx->Below B w wx):=zzH (fun wx hh=>HBA.out.trans (hh.mono (by have:=HBA.out.size;have:=HBZ.out;omega)));go_wp2_with fail;refine(hB _).mono ?_;rintro e w1 ⟨so',c',rfl,hb1⟩;go_wp2_with fail;refine(hZ so' c' _).mono ?_;rintro e w2 ⟨rfl,hb2⟩;clear hZ hB;have HB2:Hid (Below Wa.heap.size Wa w2):=zzH (ze hb1 hb2);clear hb1 hb2;have HET:Hid (∀A,t.items.all (zh f)=A->R=(okK t&&A)):=zzH (fun A h=>by rw [HE.out,h,Bool.and_true]);clear HE;have HAK:Hid (t.items.all (zh f)=(t.items.drop 0).all (zh f)):=zzH rfl;generalize t.items.all (zh f)=A at HREC HET HAK;go_wp2_with fail;go_loopw [3] (fun iv wr=> ∃(k:Nat),k<=t.items.length/\iv= .int .i64 k/\Hid (A=(t.items.drop k).all (zh f))/\Hid (Below Wa.heap.size Wa wr)) (fun iv _=>t.items.length-(intOf iv).toNat)
 case atStart=>exact⟨0,zzZ _,rfl,HAK,HB2⟩
 case round=>
  obtain⟨k,hk,rfl,HK,HBk⟩:=hrel;rename World=>wr
  clear c0 c1 c2 c3 c4 c5 c6 c7 c8;have hb1:=(HBk.out.block B (zd HBX.out)).trans HBX.out;have hlb1:=zd hb1;obtain ⟨c0,c1,c2,c3,c4,c5,c6,c7,c8⟩:=zzc9 hb1;clear hb1;by_cases hlt:k<t.items.length
  ·exact zz162
  ·have E:Hid (R=okK t):=zzH (by rw [HET.out A rfl,HK.out,zzq10 (by omega)];simp)
   have hkd:=HKD.out;have E2:=zzH (E.out.trans (zgX hkd));have t1:(t.kind==1)=false:=zzB.2 (fun e=>hkd (by omega));have t2:(t.kind==2)=false:=zzB.2 (fun e=>hkd (by omega));have t3:(t.kind==3)=false:=zzB.2 (fun e=>hkd (by omega));have t4:(t.kind==4)=false:=zzB.2 (fun e=>hkd (by omega));have t5:(t.kind==5)=false:=zzB.2 (fun e=>hkd (by omega));have t6:(t.kind==6)=false:=zzB.2 (fun e=>hkd (by omega));have t7:(t.kind==7)=false:=zzB.2 (fun e=>hkd (by omega));have t8:(t.kind==8)=false:=zzB.2 (fun e=>hkd (by omega));have t9:(t.kind==9)=false:=zzB.2 (fun e=>hkd (by omega));have t10:(t.kind==10)=false:=zzB.2 (fun e=>hkd (by omega));clear hkd HKD E;go_wp2;go_ret;exact⟨zl E2.out.symm,by rw [HBZ.out];exact HFIN.out _ HBk.out⟩
theorem zk4 (f:Nat) (t:Tm) (so:zzA) (c:Nat) (w:World) (hok:t.Ok) (hrec:zcT f t so w) (hz:zbB 0 (zf t).int (zf t).gen (zf t).name (zf t).func (zf t).arity (zf t).items.length (zf t).bytes (zf t).bits=true) (hkd:t.kind=7):
  Calls Tryz.prog 131 #[.agg (zzt t so c)] w fun e w'=>e= .returned (.bool (zh (f+1) t))/\Below w.heap.size w w':=by
 unfold zzt;have HKD:=zzH hkd;clear hkd;obtain⟨ok0,ok1,ok2,ok3,ok4,ok5,ok6,ok7,ok8⟩:=hok;unfold maxLen at ok3 ok4 ok6 ok7;have HE:Hid (zh (f+1) t=((okK t&&zbB 0 (zf t).int (zf t).gen (zf t).name (zf t).func (zf t).arity (zf t).items.length (zf t).bytes (zf t).bits)&&t.items.all (zh f))):=zzH (by rw [zc2];rfl);have hZ:=fun so' c' wx=>zct 0 (zf t).int (zf t).gen (zf t).name (zf t).func (zf t).arity so' (zf t).items.length c' (zf t).bytes (zf t).bits wx (zzY (zcm t) (by omega))
 have hB:=fun wx=>zcu t so c wx
 unfold zdW at hB;generalize zbB 0 (zf t).int (zf t).gen (zf t).name (zf t).func (zf t).arity (zf t).items.length (zf t).bytes (zf t).bits=Z at *;generalize zf t=q at *;have HREC0:=zzH hrec;clear hrec;generalize zh (f+1) t=R at *;subst hz;go_in;go_upto_region 1 with fail;have hbx:=zb9 w t so c;have hba:Below w.heap.size w (w.alloc (.cells (zzt t so c) 110)):=zzE _ _;generalize w.alloc (.cells (zzt t so c) 110)=Wa at *;have HREC:Hid (zdm f t so Wa (t.items.all (zh f))):=zzH (HREC0.out Wa hba);clear HREC0;generalize hBz:w.heap.size=B at *;refine zzK3 hBz hba hbx fun HBZ HBA HBX=>?_;clear hBz hba;have hlb:=zd hbx;obtain ⟨c0,c1,c2,c3,c4,c5,c6,c7,c8⟩:=zzc9 hbx;clear hbx;have HFIN:Hid (∀wx,Below Wa.heap.size Wa wx->Below B w wx):=zzH (fun wx hh=>HBA.out.trans (hh.mono (by have:=HBA.out.size;have:=HBZ.out;omega)));go_wp2_with fail;refine(hB _).mono ?_;rintro e w1 ⟨so',c',rfl,hb1⟩;go_wp2_with fail;refine(hZ so' c' _).mono ?_;rintro e w2 ⟨rfl,hb2⟩;clear hZ hB;have HB2:Hid (Below Wa.heap.size Wa w2):=zzH (ze hb1 hb2);clear hb1 hb2;have HET:Hid (∀A,t.items.all (zh f)=A->R=(okK t&&A)):=zzH (fun A h=>by rw [HE.out,h,Bool.and_true]);clear HE;have HAK:Hid (t.items.all (zh f)=(t.items.drop 0).all (zh f)):=zzH rfl;generalize t.items.all (zh f)=A at HREC HET HAK;go_wp2_with fail;go_loopw [3] (fun iv wr=> ∃(k:Nat),k<=t.items.length/\iv= .int .i64 k/\Hid (A=(t.items.drop k).all (zh f))/\Hid (Below Wa.heap.size Wa wr)) (fun iv _=>t.items.length-(intOf iv).toNat)
 case atStart=>exact⟨0,zzZ _,rfl,HAK,HB2⟩
 case round=>
  obtain⟨k,hk,rfl,HK,HBk⟩:=hrel;rename World=>wr
  clear c0 c1 c2 c3 c4 c5 c6 c7 c8;have hb1:=(HBk.out.block B (zd HBX.out)).trans HBX.out;have hlb1:=zd hb1;obtain ⟨c0,c1,c2,c3,c4,c5,c6,c7,c8⟩:=zzc9 hb1;clear hb1;by_cases hlt:k<t.items.length
  ·exact zz162
  ·have E:Hid (R=okK t):=zzH (by rw [HET.out A rfl,HK.out,zzq10 (by omega)];simp)
   have hkd:=HKD.out;have e2:okK t=decide ((t.items.length:Int)<=255):=by unfold okK;simp [hkd];omega
   rw [hkd]at c0;have E2:=zzH (E.out.trans e2);clear E HKD hkd e2;go_wp2;go_ret;exact⟨zl E2.out.symm,by rw [HBZ.out];exact HFIN.out _ HBk.out⟩
theorem zjp (f:Nat) (t:Tm) (so:zzA) (c:Nat) (w:World) (hok:t.Ok) (hrec:zcT f t so w) (hz:zbB 0 (zf t).int (zf t).gen (zf t).name (zf t).func (zf t).arity (zf t).items.length (zf t).bytes (zf t).bits=true) (hkd:t.kind=4):
  Calls Tryz.prog 131 #[.agg (zzt t so c)] w fun e w'=>e= .returned (.bool (zh (f+1) t))/\Below w.heap.size w w':=by
 unfold zzt;have HKD:=zzH hkd;clear hkd;obtain⟨ok0,ok1,ok2,ok3,ok4,ok5,ok6,ok7,ok8⟩:=hok;unfold maxLen at ok3 ok4 ok6 ok7;have HE:Hid (zh (f+1) t=((okK t&&zbB 0 (zf t).int (zf t).gen (zf t).name (zf t).func (zf t).arity (zf t).items.length (zf t).bytes (zf t).bits)&&t.items.all (zh f))):=zzH (by rw [zc2];rfl);have hZ:=fun so' c' wx=>zct 0 (zf t).int (zf t).gen (zf t).name (zf t).func (zf t).arity so' (zf t).items.length c' (zf t).bytes (zf t).bits wx (zzY (zcm t) (by omega))
 have hB:=fun wx=>zcu t so c wx
 unfold zdW at hB;generalize zbB 0 (zf t).int (zf t).gen (zf t).name (zf t).func (zf t).arity (zf t).items.length (zf t).bytes (zf t).bits=Z at *;generalize zf t=q at *;have HREC0:=zzH hrec;clear hrec;generalize zh (f+1) t=R at *;subst hz;go_in;go_upto_region 1 with fail;have hbx:=zb9 w t so c;have hba:Below w.heap.size w (w.alloc (.cells (zzt t so c) 110)):=zzE _ _;generalize w.alloc (.cells (zzt t so c) 110)=Wa at *;have HREC:Hid (zdm f t so Wa (t.items.all (zh f))):=zzH (HREC0.out Wa hba);clear HREC0;generalize hBz:w.heap.size=B at *;refine zzK3 hBz hba hbx fun HBZ HBA HBX=>?_;clear hBz hba;have hlb:=zd hbx;obtain ⟨c0,c1,c2,c3,c4,c5,c6,c7,c8⟩:=zzc9 hbx;clear hbx;have HFIN:Hid (∀wx,Below Wa.heap.size Wa wx->Below B w wx):=zzH (fun wx hh=>HBA.out.trans (hh.mono (by have:=HBA.out.size;have:=HBZ.out;omega)));go_wp2_with fail;refine(hB _).mono ?_;rintro e w1 ⟨so',c',rfl,hb1⟩;go_wp2_with fail;refine(hZ so' c' _).mono ?_;rintro e w2 ⟨rfl,hb2⟩;clear hZ hB;have HB2:Hid (Below Wa.heap.size Wa w2):=zzH (ze hb1 hb2);clear hb1 hb2;have HET:Hid (∀A,t.items.all (zh f)=A->R=(okK t&&A)):=zzH (fun A h=>by rw [HE.out,h,Bool.and_true]);clear HE;have HAK:Hid (t.items.all (zh f)=(t.items.drop 0).all (zh f)):=zzH rfl;generalize t.items.all (zh f)=A at HREC HET HAK;go_wp2_with fail;go_loopw [3] (fun iv wr=> ∃(k:Nat),k<=t.items.length/\iv= .int .i64 k/\Hid (A=(t.items.drop k).all (zh f))/\Hid (Below Wa.heap.size Wa wr)) (fun iv _=>t.items.length-(intOf iv).toNat)
 case atStart=>exact⟨0,zzZ _,rfl,HAK,HB2⟩
 case round=>
  obtain⟨k,hk,rfl,HK,HBk⟩:=hrel;rename World=>wr
  clear c0 c1 c2 c3 c4 c5 c6 c7 c8;have hb1:=(HBk.out.block B (zd HBX.out)).trans HBX.out;have hlb1:=zd hb1;obtain ⟨c0,c1,c2,c3,c4,c5,c6,c7,c8⟩:=zzc9 hb1;clear hb1;by_cases hlt:k<t.items.length
  ·exact zz162
  ·have E:Hid (R=okK t):=zzH (by rw [HET.out A rfl,HK.out,zzq10 (by omega)];simp)
   have hkd:=HKD.out;have hE:=E.out;have e2:okK t=(wi t.int 0 999&&wi t.gen 1 2147483647&&zy t.name&&wi t.arity 0 16&&decide (t.items.length<=200)):=by unfold okK;simp [hkd,Bool.and_assoc]
   rw [e2]at hE;rw [hkd]at c0;clear e2 E HKD hkd;have h0:=fun wx=>zdn t.int 0 999 wx
   have h1:=fun wx=>zdn t.gen 1 2147483647 wx
   have h2:=fun wx=>zdv t.name wx (by unfold maxLen;omega)
   have h3:=fun wx=>zdn t.arity 0 16 wx
   generalize wi t.int 0 999=b0 at *;generalize wi t.gen 1 2147483647=b1 at *;generalize zy t.name=b2 at *;generalize wi t.arity 0 16=b3 at *;have E:=zzH hE;clear hE
   cases b0 with
   |false=>
    exact zz165
   |true=>
    cases b1 with
    |false=>
     exact zz165
    |true=>
     cases b2 with
     |false=>
      exact zz165
     |true=>
      cases b3 with
      |false=>
       exact zz165
      |true=>
       exact zz165
theorem zl5 (f:Nat) (t:Tm) (so:zzA) (c:Nat) (w:World) (hok:t.Ok) (hrec:zcT f t so w) (hz:zbB 0 (zf t).int (zf t).gen (zf t).name (zf t).func (zf t).arity (zf t).items.length (zf t).bytes (zf t).bits=true) (hkd:t.kind=9):
  Calls Tryz.prog 131 #[.agg (zzt t so c)] w fun e w'=>e= .returned (.bool (zh (f+1) t))/\Below w.heap.size w w':=by
 unfold zzt;have HKD:=zzH hkd;clear hkd;obtain⟨ok0,ok1,ok2,ok3,ok4,ok5,ok6,ok7,ok8⟩:=hok;unfold maxLen at ok3 ok4 ok6 ok7;have HE:Hid (zh (f+1) t=((okK t&&zbB 0 (zf t).int (zf t).gen (zf t).name (zf t).func (zf t).arity (zf t).items.length (zf t).bytes (zf t).bits)&&t.items.all (zh f))):=zzH (by rw [zc2];rfl);have hZ:=fun so' c' wx=>zct 0 (zf t).int (zf t).gen (zf t).name (zf t).func (zf t).arity so' (zf t).items.length c' (zf t).bytes (zf t).bits wx (zzY (zcm t) (by omega))
 have hB:=fun wx=>zcu t so c wx
 unfold zdW at hB;generalize zbB 0 (zf t).int (zf t).gen (zf t).name (zf t).func (zf t).arity (zf t).items.length (zf t).bytes (zf t).bits=Z at *;generalize zf t=q at *;have HREC0:=zzH hrec;clear hrec;generalize zh (f+1) t=R at *;subst hz;go_in;go_upto_region 1 with fail;have hbx:=zb9 w t so c;have hba:Below w.heap.size w (w.alloc (.cells (zzt t so c) 110)):=zzE _ _;generalize w.alloc (.cells (zzt t so c) 110)=Wa at *;have HREC:Hid (zdm f t so Wa (t.items.all (zh f))):=zzH (HREC0.out Wa hba);clear HREC0;generalize hBz:w.heap.size=B at *;refine zzK3 hBz hba hbx fun HBZ HBA HBX=>?_;clear hBz hba;have hlb:=zd hbx;obtain ⟨c0,c1,c2,c3,c4,c5,c6,c7,c8⟩:=zzc9 hbx;clear hbx;have HFIN:Hid (∀wx,Below Wa.heap.size Wa wx->Below B w wx):=zzH (fun wx hh=>HBA.out.trans (hh.mono (by have:=HBA.out.size;have:=HBZ.out;omega)));go_wp2_with fail;refine(hB _).mono ?_;rintro e w1 ⟨so',c',rfl,hb1⟩;go_wp2_with fail;refine(hZ so' c' _).mono ?_;rintro e w2 ⟨rfl,hb2⟩;clear hZ hB;have HB2:Hid (Below Wa.heap.size Wa w2):=zzH (ze hb1 hb2);clear hb1 hb2;have HET:Hid (∀A,t.items.all (zh f)=A->R=(okK t&&A)):=zzH (fun A h=>by rw [HE.out,h,Bool.and_true]);clear HE;have HAK:Hid (t.items.all (zh f)=(t.items.drop 0).all (zh f)):=zzH rfl;generalize t.items.all (zh f)=A at HREC HET HAK;go_wp2_with fail;go_loopw [3] (fun iv wr=> ∃(k:Nat),k<=t.items.length/\iv= .int .i64 k/\Hid (A=(t.items.drop k).all (zh f))/\Hid (Below Wa.heap.size Wa wr)) (fun iv _=>t.items.length-(intOf iv).toNat)
 case atStart=>exact⟨0,zzZ _,rfl,HAK,HB2⟩
 case round=>
  obtain⟨k,hk,rfl,HK,HBk⟩:=hrel;rename World=>wr
  clear c0 c1 c2 c3 c4 c5 c6 c7 c8;have hb1:=(HBk.out.block B (zd HBX.out)).trans HBX.out;have hlb1:=zd hb1;obtain ⟨c0,c1,c2,c3,c4,c5,c6,c7,c8⟩:=zzc9 hb1;clear hb1;by_cases hlt:k<t.items.length
  ·exact zz162
  ·have E:Hid (R=okK t):=zzH (by rw [HET.out A rfl,HK.out,zzq10 (by omega)];simp)
   have hkd:=HKD.out;have e2:okK t=(decide (2<=t.items.length)&&decide (zfF t.items≠9)):=by unfold okK;simp [hkd]
   rw [hkd]at c0;have E2:=zzH (E.out.trans e2);clear E HKD hkd e2;by_cases h2:t.items.length<2
   ·have E3:Hid (R=false):=zzH (by rw [E2.out,decide_eq_false (by omega)];rfl)
    go_wp2;go_ret;exact⟨zl E3.out.symm,by rw [HBZ.out];exact HFIN.out _ HBk.out⟩
   ·have hl1:t.items.length-1<t.items.length:=by omega
    have hA:t.items.all (zh f)=true:=by
     have h:=HAK.out.symm.trans HK.out;rw [zzq10 (Nat.le_of_not_lt hlt),List.drop_zero]at h;exact h
    obtain⟨b2,off,ai,ci,hao,hb2,q0,-⟩:=HREC.out (t.items.length-1) wr hl1 HBk.out (by rw [HAK.out,List.drop_zero,hA];exact(zh1 hA _).symm);subst hao;have E3:Hid (R=decide (t.items[t.items.length-1].kind≠9)):=zzH (by rw [E2.out,znO hl1,decide_eq_true (by omega),zzq15]);clear E2 hA HAK HET HREC;generalize t.items[t.items.length-1].kind=lk at *;clear hl1;obtain⟨m,hm⟩: ∃m,t.items.length=m+2:=⟨t.items.length-2,by omega⟩;generalize t.items.length=n at *;subst hm;rw [show m+2-1=m+1 by rfl]at q0;go_wp2;go_ret;exact⟨zl (by rw [E3.out];by_cases hl:lk=9<;>simp [hl]),by rw [HBZ.out];exact HFIN.out _ HBk.out⟩
theorem zhR (f:Nat) (IH: ∀f',f=f'+1->zkS f'):zkS f:=by
 intro t so c w hsl hok
 have hrec:zcT f t so w:=by
  intro Wa hba k wr hlt hb hs
  cases f with
  |zero=>rw [hsl.zero]at hlt;exact absurd hlt (zzC _)
  |succ f=>
   obtain⟨b2,off,ai,ci,hao,hb2,q0,q1,q2,q3,q4,q5,q6,q7,q8,hit,hok2⟩:=(SlAt.tms (SlAt.tms hsl hba) hb).tm hlt;exact⟨b2,off,ai,ci,hao,hb2,q0,q1,q2,q3,q4,q5,q6,q7,q8,zh (f+1) t.items[k],IH f rfl _ ai ci wr hit hok2,by rw [hs];exact zfv hlt⟩
 cases hz:zbB 0 (zf t).int (zf t).gen (zf t).name (zf t).func (zf t).arity (zf t).items.length (zf t).bytes (zf t).bits with
 |false=>exact znw f t so c w hok hrec hz
 |true=>
  by_cases h1:t.kind=1
  ·exact zn7 f t so c w hok hrec hz h1
  by_cases h2:t.kind=2
  ·exact zmt f t so c w hok hrec hz h2
  by_cases h3:t.kind=3
  ·exact zos f t so c w hok hrec hz h3
  by_cases h4:t.kind=4
  ·exact zjp f t so c w hok hrec hz h4
  by_cases h5:t.kind=5
  ·exact zj3 f t so c w hok hrec hz h5
  by_cases h6:t.kind=6
  ·exact znW f t so c w hok hrec hz h6
  by_cases h7:t.kind=7
  ·exact zk4 f t so c w hok hrec hz h7
  by_cases h8:t.kind=8
  ·exact zoN f t so c w hok hrec hz h8
  by_cases h9:t.kind=9
  ·exact zl5 f t so c w hok hrec hz h9
  by_cases h10:t.kind=10
  ·exact zmg f t so c w hok hrec hz h10
  exact zli f t so c w hok hrec hz (by omega)
theorem zou (f:Nat):zkS f:=by
 induction f with
 |zero=>exact zhR 0 (fun f' h=>absurd h (by omega))
 |succ f ih=>exact zhR (f+1) (fun f' h=>by
   have:f'=f:=by omega
   subst this;exact ih)
theorem zjS (f:Nat) (t:Tm) (so:zzA) (c:Nat) (w:World) (ht:SlAt w 9 (TmAt w f) so t.items) (hok:t.Ok) (hs1:(zR (f+1) t:Int)<=1152921504606846976):
  Calls Tryz.prog 110 #[.agg (zzt t so c)] w fun e w'=>e= .returned (.int .i64 (zdM (f+1) t))/\Below w.heap.size w w':=by
 unfold zzt;have hbx:=zb9 w t so c;have hB:Below w.heap.size w (w.alloc (.cells (zzt t so c) 110)):=zzE _ _;have hF: ∀wx,Below w.heap.size w wx->Calls Tryz.prog 131 #[.agg #[.int .i64 t.kind,.int .i64 t.int,.int .i64 t.gen,.string t.name,.string t.func,.int .i64 t.arity,.slice so t.items.length c,.string t.bytes,.int .i64 t.bits]] wx fun e w'=>e= .returned (.bool (zh (f+1) t))/\Below wx.heap.size wx w':=fun wx hx=>zou f t so c wx (ht.tms hx) hok
 have hW:zh (f+1) t=true-> ∀wx,Below w.heap.size w wx->Calls Tryz.prog 132 #[.agg #[.int .i64 t.kind,.int .i64 t.int,.int .i64 t.gen,.string t.name,.string t.func,.int .i64 t.arity,.slice so t.items.length c,.string t.bytes,.int .i64 t.bits]] wx fun e w'=>e= .returned (.int .i64 (zr (f+1) t))/\Below wx.heap.size wx w':=fun h wx hx=>zno f t so c wx (ht.tms hx) hok h hs1
 have E:Hid (zdM (f+1) t=if zh (f+1) t=true then(if 2000<zr (f+1) t then 3 else 0)else 2):=zzH rfl;refine zzK4 hB hbx hF hW fun HB HBX HF HW=>?_;clear ht hok hs1 hB hF hW hbx;generalize zdM (f+1) t=r at *;generalize zh (f+1) t=b at *;generalize zr (f+1) t=n at *;go_in;go_upto_region 1 with fail;generalize w.alloc (.cells (zzt t so c) 110)=Wa at *;generalize hBz:w.heap.size=B at *;have HBZ:=zzH hBz;clear hBz;have hb1:=HBX.out;have hlb1:=zd hb1;obtain ⟨c0,c1,c2,c3,c4,c5,c6,c7,c8⟩:=zzc9 hb1;clear hb1
 cases b with
 |false=>
  rw [if_neg (by decide)]at E;go_wp2_with fail;refine(HF.out _ HB.out).mono ?_;rintro e w5 ⟨rfl,hb5⟩;go_wp2;go_ret;exact⟨zcF E.out.symm,ze (by rw [HBZ.out];exact HB.out) hb5⟩
 |true=>
  rw [if_pos rfl]at E;go_wp2_with fail;refine(HF.out _ HB.out).mono ?_;rintro e w5 ⟨rfl,hb5⟩;have hb1:=(hb5.block B hlb1).trans HBX.out;have hlb5:=zd hb1;clear c0 c1 c2 c3 c4 c5 c6 c7 c8 hlb1;obtain ⟨c0,c1,c2,c3,c4,c5,c6,c7,c8⟩:=zzc9 hb1;clear hb1;have HB5:Hid (Below B w w5):=zzH (HB.out.trans (hb5.mono (by have:=HB.out.size;have:=HBZ.out;omega)));clear hb5;by_cases hn:2000<n
  ·rw [if_pos hn]at E
   exact zz166
  ·rw [if_neg hn]at E
   have hn':n<=2000:=by omega
   clear hn;exact zz166
theorem zff (f:Nat) (t:Tm) (so:zzA) (c:Nat) (w:World) (ht:SlAt w 9 (TmAt w f) so t.items) (hok:t.Ok) (hs1:(zR (f+1) t:Int)<=1152921504606846976):
  Calls Tryz.prog 73 #[.agg (zzt t so c)] w fun e w'=>e= .returned (.bool (zM (f+1) t))/\Below w.heap.size w w':=by
 unfold zzt;have hB:Below w.heap.size w (w.alloc (.cells (zzt t so c) 110)):=zzE _ _;have hC:=zjS f t so c (w.alloc (.cells (zzt t so c) 110)) (ht.tms hB) hok hs1
 have E:Hid ((zdM (f+1) t==0)=zM (f+1) t):=zzH (by
  unfold zdM zM
  cases zh (f+1) t
  ·rfl
  ·rw [if_pos rfl,zzq15]
   by_cases h:2000<zr (f+1) t
   ·rw [if_pos h,decide_eq_false (by omega)];rfl
   ·rw [if_neg h,decide_eq_true (by omega)];rfl)
 have HB:=zzH hB;clear hB ht hok hs1;generalize zdM (f+1) t=n at *;go_in;go_wp2_with fail;refine hC.mono ?_;rintro e w5 ⟨rfl,hb5⟩;go_wp2;go_ret;exact⟨zl E.out,ze HB.out hb5⟩
end Go.Proofs.YthajedcbgnloeaaGreatDoor
