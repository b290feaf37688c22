import Derived.Test.YtijekmeocadkeaaGreatDoorRows
import Derived.Test.YtijekmeocadkeaaGreatDoorW05
import Derived.Test.YtijekmeocadkeaaGreatDoorW06
import Derived.Test.YtijekmeocadkeaaGreatDoorW07
namespace Go.Proofs.YtijekmeocadkeaaGreatDoor
open Go.RowKit
set_option linter.unusedVariables false
set_option linter.unusedSimpArgs false
set_option maxRecDepth 100000
set_option maxHeartbeats 0
def zdi (op:Int):Bool:=decide (1<=op/\op<=40)
def zr (op:Int):Int × Int × Int:=(rowT[op.toNat]?).getD (0,0,0)
def zep (u:RUnit) (i:Nat) (x:RIns):Bool:=
 zdi x.op&&(zQ u.lits.length x (zr x.op).1.toNat (zr x.op).2.1.toNat (zr x.op).2.2.toNat&&(zl u.funcs.length u.funs x&&(zbh x&&(zbo u.lits x&&zbT u.code i x (zr x.op).1.toNat))))
def zbj (u:RUnit):List RIns->Nat->Option Nat
 |[],_=>none
 |x::l,i=>if zep u i x=true then zbj u l (i+1)else some i
def zb6 (f:Nat) (u:RUnit):Int:=if zM f u=true then(match zbj u u.code 0 with|some i=>(i:Int)|none=>0)else -1
def zZ (f:Nat) (u:RUnit):Int:=if zM f u=true then(match zbj u u.code 0 with|some _=>6|none=>0)else 6
theorem zk9 (u:RUnit) {l:List RIns} {k:Nat} (h:k<l.length):zbj u (l.drop k) k=if zep u k l[k]=true then zbj u (l.drop (k+1)) (k+1)else some k:=by
 rw [List.drop_eq_getElem_cons h,zbj]
theorem zhO: ∀k,(h:k<41)->0<=(rowT[k]'h).1/\(rowT[k]'h).1<1000/\0<=(rowT[k]'h).2.1/\(rowT[k]'h).2.1<1000/\0<=(rowT[k]'h).2.2/\(rowT[k]'h).2.2<1000:=by decide
theorem zhT {op:Int} (h:1<=op/\op<=40) (w:World) (hr:RowsAt w):
  Calls Tryz.prog 69 #[.int .i64 op] w fun e w'=>e= .returned (.tuple #[.agg #[.int .i64 ((zr op).1.toNat:Nat),.int .i64 ((zr op).2.1.toNat:Nat),.int .i64 ((zr op).2.2.toNat:Nat)],.bool true])/\Below w.heap.size w w':=by
 obtain⟨k,rfl⟩: ∃k:Nat,op=(k:Int):=⟨op.toNat,by omega⟩;have hk:k<41:=by omega
 have h1:=zo4 k (by omega) hk w hr;obtain⟨a,b,c,d,e,g⟩:=zhO k hk;have hra:zr (k:Int)=rowT[k]'hk:=by unfold zr;rw [zzq16,zzq11 (by exact hk)];rfl
 rw [hra,Int.toNat_of_nonneg a,Int.toNat_of_nonneg c,Int.toNat_of_nonneg e];exact h1
theorem zgK {op:Int}:(zr op).1.toNat<1000/\(zr op).2.1.toNat<1000/\(zr op).2.2.toNat<1000:=by
 unfold zr;by_cases h:op.toNat<41
 ·obtain⟨a,b,c,d,e,g⟩:=zhO op.toNat h
  rw [zzq11 (by exact h)];simp only [Option.getD_some];omega
 ·rw [List.getElem?_eq_none (by exact Nat.le_of_not_lt h)]
  simp
theorem zcY {k k':IntKind} {a b c d:Int} (h:a=b) (h':c=d):Ending.returned (.tuple #[.int k a,.int k' c])= .returned (.tuple #[.int k b,.int k' d]):=by rw [h,h']
theorem zds {f:Nat} {u:RUnit} (h:zM f u=true): ∀t∈u.lits,zA f t=true:=by
 unfold zM at h;rw [zzq6,zzq6]at h;exact zzp.1 h.2.1
theorem zhq (f:Nat) (u:RUnit) (lo fo go co:zzA) (lc fc gc cc:Nat) (w:World) (hrows:RowsAt w) (hsp:SpaceAt w) (hp:UP w u lo fo go co) (hlits:SlAt w 9 (TmAt w (f+1)) lo u.lits) (hcap: ∀t∈u.lits,(zG (f+1) t:Int)<=1152921504606846976) (hnm: ∀x∈u.code,x.name.size<=140737488355328):
  Calls Tryz.prog 32 #[.agg (zzu u lo lc fo fc go gc co cc)] w fun e w'=>e= .returned (.tuple #[.int .i64 (zb6 (f+1) u),.int .i64 (zZ (f+1) u)])/\Below w.heap.size w w':=by
 unfold zzu;refine zzK6 hp hrows hsp hlits hcap hnm fun HP HRW HSP HLI HCAP HNM=>?_;clear hrows hsp hp hlits hcap hnm;have hbx:=zcJ w u lo fo go co lc fc gc cc;have hba:Below w.heap.size w (w.alloc (.cells (zzu u lo lc fo fc go gc co cc) 27)):=zzE _ _;have hT:=znx f w.heap.size u lo fo go co lc fc gc cc _ hbx (HP.out.below hba) (HLI.out.tms hba) HCAP.out;have HBX:=zzH hbx;have HBA:=zzH hba;have EI:Hid (zb6 (f+1) u=if zM (f+1) u=true then(match zbj u u.code 0 with|some i=>(i:Int)|none=>0)else -1):=zzH rfl;have EE:Hid (zZ (f+1) u=if zM (f+1) u=true then(match zbj u u.code 0 with|some _=>6|none=>0)else 6):=zzH rfl;clear hbx hba
 cases htb:zM (f+1) u with
 |false=>
  rw [htb]at hT EI EE;rw [if_neg (by decide)]at EI EE;clear htb;go_in;go_wp2_with fail;refine hT.mono ?_;rintro e w5 ⟨rfl,hb5⟩;go_wp2;go_ret2;exact⟨zcY EI.out.symm EE.out.symm,zd HBA.out hb5⟩
 |true=>
  rw [htb]at hT EI EE;rw [if_pos rfl]at EI EE;have HLV:=zzH (zds htb);have HI:Hid (zbj u u.code 0=zbj u (u.code.drop 0) 0):=zzH rfl;clear htb;have hcl:=HP.out.codeLen;go_in;go_wp2_with fail;refine hT.mono ?_;rintro e w5 ⟨rfl,hb5⟩;have HB5:=zzH (zd HBA.out hb5);have HU5:=zzH (HBX.out.below hb5);have d5:=HU5.out.c5;have hsz:w.heap.size<=w5.heap.size:=HB5.out.size;clear hb5 hT HBX HBA;generalize hBe:w.heap.size=B at *;have HBE:=zzH hBe;clear hBe;go_wp2_with fail;go_loopw [13] (fun i wr=> ∃k:Nat,k<=u.code.length/\i= .int .i64 k/\Hid (zbj u u.code 0=zbj u (u.code.drop k) k)/\Below w5.heap.size w5 wr) (fun i _=>u.code.length-(intOf i).toNat)
  case atStart=>exact⟨0,zzZ _,rfl,HI,zzR _ _⟩
  case round=>
   obtain⟨k,hk,rfl,HK,hBw⟩:=hrel;rename World=>wr
   by_cases hlt:k<u.code.length
   ·have HFW:Hid (Below w.heap.size w wr):=zzH (by rw [HBE.out];exact HB5.out.trans (hBw.mono hsz))
    obtain⟨bc,oc,so,co',go',sc,cc',gc',hco,hxb⟩:=zfd (HP.out.below HFW.out).code hlt;subst hco;have HST:=zzH (zk9 u hlt);have hui:=HU5.out.below hBw;have e5:=hui.c5;have c0:=hxb.c0;have hbl:=hxb.lt;have hBl:=hui.lt;have hll:=HP.out.litsLen;have hrl:= @zgK u.code[k].op;have HINS:Hid (zep u k u.code[k]=(zdi u.code[k].op&&(zQ u.lits.length u.code[k] (zr u.code[k].op).1.toNat (zr u.code[k].op).2.1.toNat (zr u.code[k].op).2.2.toNat&&(zl u.funcs.length u.funs u.code[k]&&(zbh u.code[k]&&(zbo u.lits u.code[k]&&zbT u.code k u.code[k] (zr u.code[k].op).1.toNat)))))):=zzH rfl;have cf:=fun wx (hx:Below wr.heap.size wr wx)=>zmO B u lo fo go (some ⟨bc,oc,none⟩) lc fc gc cc bc (oc+k*10) u.code[k] so co' go' sc cc' gc' (zr u.code[k].op).1.toNat (zr u.code[k].op).2.1.toNat (zr u.code[k].op).2.2.toNat wx (hui.below hx) hll (hxb.below hx) hrl.1 hrl.2.1 hrl.2.2
    have cn:=fun wx (hx:Below wr.heap.size wr wx)=>zne B u lo fo go (some ⟨bc,oc,none⟩) lc fc gc cc bc (oc+k*10) u.code[k] so co' go' sc cc' gc' wx (hui.below hx) HP.out.funcsLen HP.out.funsLen ((HP.out.below HFW.out).below hx).funs (hxb.below hx)
    have cm:=fun wx (hx:Below wr.heap.size wr wx)=>zoM bc (oc+k*10) u.code[k] so co' go' sc cc' gc' wx ((HSP.out.below HFW.out).below hx) (hxb.below hx) (HNM.out _ (zzM hlt))
    have cl:=fun wx (hx:Below wr.heap.size wr wx)=>zpY B u lo fo go (some ⟨bc,oc,none⟩) lc fc gc cc bc (oc+k*10) u.code[k] so co' go' sc cc' gc' f wx (hui.below hx) hll ⟨(HLI.out.tms HFW.out).tms hx,fun t ht=>⟨HLV.out t ht,HCAP.out t ht⟩⟩ (hxb.below hx)
    have ct:=fun wx (hx:Below wr.heap.size wr wx)=>zlw B u lo fo go lc fc gc cc bc oc k (zr u.code[k].op).1.toNat (zr u.code[k].op).2.1.toNat (zr u.code[k].op).2.2.toNat so co' go' sc cc' gc' wx (hui.below hx) ((HP.out.below HFW.out).below hx).code hcl hlt u.code[k] (hxb.below hx) hrl.1
    refine zzK5 cf cn cm cl ct fun CF CN CM CL CT=>?_;clear cf cn cm cl ct hrl hxb hui;by_cases hop:1<=u.code[k].op/\u.code[k].op<=40
    ·have hro:=zhT hop wr (HRW.out.below HFW.out)
     have hok1:zdi u.code[k].op=true:=by unfold zdi;exact zzT hop
     rw [hok1]at HINS;clear hop hok1;generalize zQ u.lits.length u.code[k] (zr u.code[k].op).1.toNat (zr u.code[k].op).2.1.toNat (zr u.code[k].op).2.2.toNat=b1 at *;generalize zbT u.code k u.code[k] (zr u.code[k].op).1.toNat=b5 at *;generalize zl u.funcs.length u.funs u.code[k]=b2 at *;generalize zbh u.code[k]=b3 at *;generalize zbo u.lits u.code[k]=b4 at *;generalize zep u k u.code[k]=ib at *;generalize(zr u.code[k].op).1.toNat=h at *;generalize(zr u.code[k].op).2.1.toNat=l1 at *;generalize(zr u.code[k].op).2.2.toNat=l2 at *;generalize u.code[k].op=op at *;have hbad:ib=false->zbj u u.code 0=some k:=fun e=>by rw [HK.out,HST.out,e];rfl
     have hgood:ib=true->zbj u u.code 0=zbj u (u.code.drop (k+1)) (k+1):=fun e=>by rw [HK.out,HST.out,e];rfl
     have HBAD:=zzH hbad;have HGOOD:=zzH hgood;clear hbad hgood
     cases b1 with
     |false=>
      have hb:=HBAD.out (by rw [HINS.out];rfl);have E1:Hid (zb6 (f+1) u=k):=zzH (by rw [EI.out,hb]);have E2:Hid (zZ (f+1) u=6):=zzH (by rw [EE.out,hb]);clear hb;go_wp2_with fail;refine hro.mono ?_;rintro e w6 ⟨rfl,hb6⟩;have HW:=zzH (hb6.alloc hb6.size (.cells #[.int .i64 (h:Nat),.int .i64 (l1:Nat),.int .i64 (l2:Nat)] 131));have hR:=zzF w6 (.cells #[.int .i64 (h:Nat),.int .i64 (l1:Nat),.int .i64 (l2:Nat)] 131);have HR:=zzH hR;have HWW:=zzH (zzR (w6.alloc (.cells #[.int .i64 (h:Nat),.int .i64 (l1:Nat),.int .i64 (l2:Nat)] 131)).heap.size (w6.alloc (.cells #[.int .i64 (h:Nat),.int .i64 (l1:Nat),.int .i64 (l2:Nat)] 131)));clear hb6 hR;go_wp2_with fail;generalize w6.alloc (.cells #[.int .i64 (h:Nat),.int .i64 (l1:Nat),.int .i64 (l2:Nat)] 131)=W6 at *;generalize w6.heap.size=R at *;refine(CF.out _ HW.out).mono ?_;rintro e v0 ⟨rfl,hc0⟩;have HV0:=zzH (zd HW.out hc0);have HZ0:=zzH (zd HWW.out hc0);clear hc0;go_wp2;go_ret2;exact⟨zcY E1.out.symm E2.out.symm,HFW.out.trans (HV0.out.mono HFW.out.size)⟩
     |true=>
      cases b2 with
      |false=>
       have hb:=HBAD.out (by rw [HINS.out];rfl);have E1:Hid (zb6 (f+1) u=k):=zzH (by rw [EI.out,hb]);have E2:Hid (zZ (f+1) u=6):=zzH (by rw [EE.out,hb]);clear hb;go_wp2_with fail;refine hro.mono ?_;rintro e w6 ⟨rfl,hb6⟩;have HW:=zzH (hb6.alloc hb6.size (.cells #[.int .i64 (h:Nat),.int .i64 (l1:Nat),.int .i64 (l2:Nat)] 131));have hR:=zzF w6 (.cells #[.int .i64 (h:Nat),.int .i64 (l1:Nat),.int .i64 (l2:Nat)] 131);have HR:=zzH hR;have HWW:=zzH (zzR (w6.alloc (.cells #[.int .i64 (h:Nat),.int .i64 (l1:Nat),.int .i64 (l2:Nat)] 131)).heap.size (w6.alloc (.cells #[.int .i64 (h:Nat),.int .i64 (l1:Nat),.int .i64 (l2:Nat)] 131)));clear hb6 hR;go_wp2_with fail;generalize w6.alloc (.cells #[.int .i64 (h:Nat),.int .i64 (l1:Nat),.int .i64 (l2:Nat)] 131)=W6 at *;generalize w6.heap.size=R at *;refine(CF.out _ HW.out).mono ?_;rintro e v0 ⟨rfl,hc0⟩;have HV0:=zzH (zd HW.out hc0);have HZ0:=zzH (zd HWW.out hc0);clear hc0;go_wp2_with fail;refine(CN.out _ HV0.out).mono ?_;rintro e v1 ⟨rfl,hc1⟩;have HV1:=zzH (zd HV0.out hc1);have HZ1:=zzH (zd HZ0.out hc1);clear hc1;go_wp2;go_ret2;exact⟨zcY E1.out.symm E2.out.symm,HFW.out.trans (HV1.out.mono HFW.out.size)⟩
      |true=>
       cases b3 with
       |false=>
        have hb:=HBAD.out (by rw [HINS.out];rfl);have E1:Hid (zb6 (f+1) u=k):=zzH (by rw [EI.out,hb]);have E2:Hid (zZ (f+1) u=6):=zzH (by rw [EE.out,hb]);clear hb;go_wp2_with fail;refine hro.mono ?_;rintro e w6 ⟨rfl,hb6⟩;have HW:=zzH (hb6.alloc hb6.size (.cells #[.int .i64 (h:Nat),.int .i64 (l1:Nat),.int .i64 (l2:Nat)] 131));have hR:=zzF w6 (.cells #[.int .i64 (h:Nat),.int .i64 (l1:Nat),.int .i64 (l2:Nat)] 131);have HR:=zzH hR;have HWW:=zzH (zzR (w6.alloc (.cells #[.int .i64 (h:Nat),.int .i64 (l1:Nat),.int .i64 (l2:Nat)] 131)).heap.size (w6.alloc (.cells #[.int .i64 (h:Nat),.int .i64 (l1:Nat),.int .i64 (l2:Nat)] 131)));clear hb6 hR;go_wp2_with fail;generalize w6.alloc (.cells #[.int .i64 (h:Nat),.int .i64 (l1:Nat),.int .i64 (l2:Nat)] 131)=W6 at *;generalize w6.heap.size=R at *;refine(CF.out _ HW.out).mono ?_;rintro e v0 ⟨rfl,hc0⟩;have HV0:=zzH (zd HW.out hc0);have HZ0:=zzH (zd HWW.out hc0);clear hc0;go_wp2_with fail;refine(CN.out _ HV0.out).mono ?_;rintro e v1 ⟨rfl,hc1⟩;have HV1:=zzH (zd HV0.out hc1);have HZ1:=zzH (zd HZ0.out hc1);clear hc1;go_wp2_with fail;refine(CM.out _ HV1.out).mono ?_;rintro e v2 ⟨rfl,hc2⟩;have HV2:=zzH (zd HV1.out hc2);have HZ2:=zzH (zd HZ1.out hc2);clear hc2;go_wp2;go_ret2;exact⟨zcY E1.out.symm E2.out.symm,HFW.out.trans (HV2.out.mono HFW.out.size)⟩
       |true=>
        cases b4 with
        |false=>
         have hb:=HBAD.out (by rw [HINS.out];rfl);have E1:Hid (zb6 (f+1) u=k):=zzH (by rw [EI.out,hb]);have E2:Hid (zZ (f+1) u=6):=zzH (by rw [EE.out,hb]);clear hb;go_wp2_with fail;refine hro.mono ?_;rintro e w6 ⟨rfl,hb6⟩;have HW:=zzH (hb6.alloc hb6.size (.cells #[.int .i64 (h:Nat),.int .i64 (l1:Nat),.int .i64 (l2:Nat)] 131));have hR:=zzF w6 (.cells #[.int .i64 (h:Nat),.int .i64 (l1:Nat),.int .i64 (l2:Nat)] 131);have HR:=zzH hR;have HWW:=zzH (zzR (w6.alloc (.cells #[.int .i64 (h:Nat),.int .i64 (l1:Nat),.int .i64 (l2:Nat)] 131)).heap.size (w6.alloc (.cells #[.int .i64 (h:Nat),.int .i64 (l1:Nat),.int .i64 (l2:Nat)] 131)));clear hb6 hR;go_wp2_with fail;generalize w6.alloc (.cells #[.int .i64 (h:Nat),.int .i64 (l1:Nat),.int .i64 (l2:Nat)] 131)=W6 at *;generalize w6.heap.size=R at *;refine(CF.out _ HW.out).mono ?_;rintro e v0 ⟨rfl,hc0⟩;have HV0:=zzH (zd HW.out hc0);have HZ0:=zzH (zd HWW.out hc0);clear hc0;go_wp2_with fail;refine(CN.out _ HV0.out).mono ?_;rintro e v1 ⟨rfl,hc1⟩;have HV1:=zzH (zd HV0.out hc1);have HZ1:=zzH (zd HZ0.out hc1);clear hc1;go_wp2_with fail;refine(CM.out _ HV1.out).mono ?_;rintro e v2 ⟨rfl,hc2⟩;have HV2:=zzH (zd HV1.out hc2);have HZ2:=zzH (zd HZ1.out hc2);clear hc2;go_wp2_with fail;refine(CL.out _ HV2.out).mono ?_;rintro e v3 ⟨rfl,hc3⟩;have HV3:=zzH (zd HV2.out hc3);have HZ3:=zzH (zd HZ2.out hc3);clear hc3;go_wp2;go_ret2;exact⟨zcY E1.out.symm E2.out.symm,HFW.out.trans (HV3.out.mono HFW.out.size)⟩
        |true=>
         cases b5 with
         |false=>
          have hb:=HBAD.out (by rw [HINS.out];rfl);have E1:Hid (zb6 (f+1) u=k):=zzH (by rw [EI.out,hb]);have E2:Hid (zZ (f+1) u=6):=zzH (by rw [EE.out,hb]);clear hb;go_wp2_with fail;refine hro.mono ?_;rintro e w6 ⟨rfl,hb6⟩;have HW:=zzH (hb6.alloc hb6.size (.cells #[.int .i64 (h:Nat),.int .i64 (l1:Nat),.int .i64 (l2:Nat)] 131));have hR:=zzF w6 (.cells #[.int .i64 (h:Nat),.int .i64 (l1:Nat),.int .i64 (l2:Nat)] 131);have HR:=zzH hR;have HWW:=zzH (zzR (w6.alloc (.cells #[.int .i64 (h:Nat),.int .i64 (l1:Nat),.int .i64 (l2:Nat)] 131)).heap.size (w6.alloc (.cells #[.int .i64 (h:Nat),.int .i64 (l1:Nat),.int .i64 (l2:Nat)] 131)));clear hb6 hR;go_wp2_with fail;generalize w6.alloc (.cells #[.int .i64 (h:Nat),.int .i64 (l1:Nat),.int .i64 (l2:Nat)] 131)=W6 at *;generalize w6.heap.size=R at *;refine(CF.out _ HW.out).mono ?_;rintro e v0 ⟨rfl,hc0⟩;have HV0:=zzH (zd HW.out hc0);have HZ0:=zzH (zd HWW.out hc0);clear hc0;go_wp2_with fail;refine(CN.out _ HV0.out).mono ?_;rintro e v1 ⟨rfl,hc1⟩;have HV1:=zzH (zd HV0.out hc1);have HZ1:=zzH (zd HZ0.out hc1);clear hc1;go_wp2_with fail;refine(CM.out _ HV1.out).mono ?_;rintro e v2 ⟨rfl,hc2⟩;have HV2:=zzH (zd HV1.out hc2);have HZ2:=zzH (zd HZ1.out hc2);clear hc2;go_wp2_with fail;refine(CL.out _ HV2.out).mono ?_;rintro e v3 ⟨rfl,hc3⟩;have HV3:=zzH (zd HV2.out hc3);have HZ3:=zzH (zd HZ2.out hc3);clear hc3;have hrr:=(HZ3.out.block R (zc HR.out)).trans HR.out;obtain ⟨g0,g1,g2⟩:=zzc3 hrr;clear hrr;go_wp2_with fail;refine(CT.out _ HV3.out).mono ?_;rintro e v4 ⟨rfl,hc4⟩;have HV4:=zzH (zd HV3.out hc4);have HZ4:=zzH (zd HZ3.out hc4);clear hc4;go_wp2;go_ret2;exact⟨zcY E1.out.symm E2.out.symm,HFW.out.trans (HV4.out.mono HFW.out.size)⟩
         |true=>
          have HNX:=zzH (HGOOD.out (by rw [HINS.out];rfl));go_wp2_with fail;refine hro.mono ?_;rintro e w6 ⟨rfl,hb6⟩;have HW:=zzH (hb6.alloc hb6.size (.cells #[.int .i64 (h:Nat),.int .i64 (l1:Nat),.int .i64 (l2:Nat)] 131));have hR:=zzF w6 (.cells #[.int .i64 (h:Nat),.int .i64 (l1:Nat),.int .i64 (l2:Nat)] 131);have HR:=zzH hR;have HWW:=zzH (zzR (w6.alloc (.cells #[.int .i64 (h:Nat),.int .i64 (l1:Nat),.int .i64 (l2:Nat)] 131)).heap.size (w6.alloc (.cells #[.int .i64 (h:Nat),.int .i64 (l1:Nat),.int .i64 (l2:Nat)] 131)));clear hb6 hR;go_wp2_with fail;generalize w6.alloc (.cells #[.int .i64 (h:Nat),.int .i64 (l1:Nat),.int .i64 (l2:Nat)] 131)=W6 at *;generalize w6.heap.size=R at *;refine(CF.out _ HW.out).mono ?_;rintro e v0 ⟨rfl,hc0⟩;have HV0:=zzH (zd HW.out hc0);have HZ0:=zzH (zd HWW.out hc0);clear hc0;go_wp2_with fail;refine(CN.out _ HV0.out).mono ?_;rintro e v1 ⟨rfl,hc1⟩;have HV1:=zzH (zd HV0.out hc1);have HZ1:=zzH (zd HZ0.out hc1);clear hc1;go_wp2_with fail;refine(CM.out _ HV1.out).mono ?_;rintro e v2 ⟨rfl,hc2⟩;have HV2:=zzH (zd HV1.out hc2);have HZ2:=zzH (zd HZ1.out hc2);clear hc2;go_wp2_with fail;refine(CL.out _ HV2.out).mono ?_;rintro e v3 ⟨rfl,hc3⟩;have HV3:=zzH (zd HV2.out hc3);have HZ3:=zzH (zd HZ2.out hc3);clear hc3;have hrr:=(HZ3.out.block R (zc HR.out)).trans HR.out;obtain ⟨g0,g1,g2⟩:=zzc3 hrr;clear hrr;go_wp2_with fail;refine(CT.out _ HV3.out).mono ?_;rintro e v4 ⟨rfl,hc4⟩;have HV4:=zzH (zd HV3.out hc4);have HZ4:=zzH (zd HZ3.out hc4);clear hc4;go_wp2_with fail;go_roundw
          case rel=>exact⟨k+1,by omega,by go_num,HNX,hBw.trans (HV4.out.mono hBw.size)⟩
          case measure=>simp [intOf];omega
    ·have hb:zbj u u.code 0=some k:=by rw [HK.out,HST.out,HINS.out];unfold zdi;rw [decide_eq_false hop];simp
     have E1:Hid (zb6 (f+1) u=k):=zzH (by rw [EI.out,hb]);have E2:Hid (zZ (f+1) u=6):=zzH (by rw [EE.out,hb]);have hro:=zkL u.code[k].op hop wr;clear hb hop;generalize u.code[k].op=op at *;go_wp2_with fail;refine hro.mono ?_;rintro e w6 ⟨rfl,hb6⟩;have HF:=zzH (HFW.out.trans (hb6.mono HFW.out.size));go_wp2;go_ret2;exact⟨zcY E1.out.symm E2.out.symm,HF.out.alloc HF.out.size _⟩
   ·have E:Hid (zbj u u.code 0=none):=zzH (by rw [HK.out,zzq8 (by omega)];rfl)
    have E1:Hid (zb6 (f+1) u=0):=zzH (by rw [EI.out,E.out]);have E2:Hid (zZ (f+1) u=0):=zzH (by rw [EE.out,E.out]);have HF:Hid (Below w.heap.size w wr):=zzH (by rw [HBE.out];exact HB5.out.trans (hBw.mono hsz));go_wp2;go_ret2;exact⟨zcY E1.out.symm E2.out.symm,HF.out⟩
theorem zcb {n a b:Int} (h:wi n a b=true):a<=n/\n<=b:=by
 exact zz72
theorem zgl (s:ByteArray):s.toList.length=s.size:=by rw [zzq14];rfl
theorem zen {s:ByteArray} {l:List UInt8} (h:(s.toList==l)=true):s.size=l.length:=by rw [<-zgl,eq_of_beq h]
theorem zna: ∀k,(h:k<41)->(zm (rowT[k]'h).1.toNat 16=true->k=12)/\(zm (rowT[k]'h).1.toNat 8=true->k=13\/k=14\/k=15) /\
  (zm (rowT[k]'h).1.toNat 4=true->k=4\/k=5\/k=9\/k=15\/k=16\/k=17\/k=18\/k=19\/k=20\/k=21\/k=24\/k=31\/k=32\/k=33)/\(rowT[k]'h).2.2<=255:=by decide
theorem zlk {op:Int} (h:1<=op/\op<=40):(zm (zr op).1.toNat 16=true->op=12)/\(zm (zr op).1.toNat 8=true->op=13\/op=14\/op=15) /\
  (zm (zr op).1.toNat 4=true->op=4\/op=5\/op=9\/op=15\/op=16\/op=17\/op=18\/op=19\/op=20\/op=21\/op=24\/op=31\/op=32\/op=33)/\(zr op).2.2<=255:=by
 obtain⟨k,rfl⟩: ∃k:Nat,op=(k:Int):=⟨op.toNat,by omega⟩;have hk:k<41:=by omega
 have hra:zr (k:Int)=rowT[k]'hk:=by unfold zr;rw [zzq16,zzq11 (by exact hk)];rfl
 rw [hra];obtain⟨a,b,c,d⟩:=zna k hk;exact⟨fun h=>by have:=a h;omega,fun h=>by have:=b h;omega,fun h=>by have:=c h;omega,d⟩
structure TabOk (u:RUnit):Prop where
 mdl:u.mdl.size<=32
 vsn0:1<=u.vsn
 vsn1:u.vsn<=2147483647
 code0:1<=u.code.length
 code1:u.code.length<=524288
 lits:u.lits.length<=65535
 funcs:u.funcs.length<=200
 funs:u.funs.length<=1000
 func: ∀g∈u.funcs,g.name.size<=32/\0<=g.arity/\g.arity<=16/\0<=g.entry/\g.entry<=524288
 fn: ∀g∈u.funs,0<=g.arity/\g.arity<=16/\0<=g.free/\g.free<=200/\0<=g.entry/\g.entry<=524288
theorem ziC {s:ByteArray} (h:zw s=true):s.size<=32:=by
 unfold zw at h;rw [zzq6,zzq6,zzq7,zzq7]at h;exact h.1.2
theorem ztM {f:Nat} {u:RUnit} (h:zM f u=true):TabOk u:=by
 unfold zM zgE at h;simp only [zzq6,zzq7]at h;obtain⟨⟨h1,h2,h3,h4,h5,h6,h7,h8⟩,_,hf,hg⟩:=h;refine⟨ziC h1,h2,h3,by omega,by omega,h6,h7,h8,fun g hm=>?_,fun g hm=>?_⟩
 ·obtain⟨k,hk,rfl⟩:=List.getElem_of_mem hm
  have:=(zza hf k hk).1;unfold zeq at this;rw [zzq6,zzq6]at this;have a:=zcb this.2.1;have b:=zcb this.2.2;exact⟨ziC this.1,by omega,by omega,by omega,by omega⟩
 ·have:=zzp.1 hg g hm
  unfold zct at this;rw [zzq6,zzq6]at this;have a:=zcb this.1;have b:=zcb this.2.1;have c:=zcb this.2.2;omega
theorem zkm {u:RUnit}: ∀(l:List RIns) (i:Nat),zbj u l i=none-> ∀k (h:k<l.length),zep u (i+k) l[k]=true
 |[],_,_,k,h=>absurd h (zzC _)
 |x::l,i,hb,k,h=>by
  unfold zbj at hb;split at hb
  ·rename_i e
   cases k with
   |zero=>exact e
   |succ k=>
    have:=zkm l (i+1) hb k (by simpa using h);rw [show i+(k+1)=i+1+k by omega];exact this
  ·cases hb
theorem zeF {f:Nat} {u:RUnit} (h:zZ f u=0):TabOk u/\zM f u=true/\ ∀k (hk:k<u.code.length),zep u k u.code[k]=true:=by
 unfold zZ at h;split at h
 ·rename_i ht
  cases hb:zbj u u.code 0 with
  |some i=>rw [hb]at h;exact absurd (show(6:Int)=0 from h) (by decide)
  |none=>
   refine⟨ztM ht,ht,fun k hk=>?_⟩;have:=zkm u.code 0 hb k hk
   rwa [Nat.zero_add]at this
 ·exact absurd h (by decide)
theorem zgz {nl:Nat} {a:RArg} (hl:nl<=65535) (h:zbi nl a=true):WArg a:=by
 unfold zbi at h;split at h
 ·exact zz78
 ·split at h
  ·exact zz78
  ·split at h
   ·exact zz78
   ·cases h
theorem zjS {s:ByteArray} {n:Int} (h:zN s n=true):s.size<=100:=by
 unfold zN at h;split at h
 ·rename_i e;rw [zen e];decide
 ·split at h
  ·rename_i e
   rw [Bool.or_eq_true]at e;rcases e with e|e<;>rw [zen e]<;>decide
  ·split at h
   ·rename_i e
    rw [List.any_eq_true]at e;obtain⟨x,hx,e⟩:=e;rw [zen e];have:opTwo.all (fun x=>decide (x.length<=100))=true:=by decide
    exact zza (zzp.1 this x hx)
   ·cases h
theorem zfy {c:Int}: ∀(ws:List (List UInt8)) (t:List UInt8->Int) {k:List UInt8},zcu c ws t k≠0->k∈ws\/t k≠0
 |[],_,_,h=>.inr h
 |x::ws,t,k,h=>by
  have h':zcu c ws (zfs t x c) k≠0:=h;rcases zfy ws _ h' with h1|h1
  ·exact .inl (zzh _ h1)
  ·unfold zfs at h1
   by_cases e:k=x
   ·subst e;exact .inl zzg
   ·rw [if_neg e]at h1;exact .inr h1
theorem zlv:(words4++(words3++(words2++words1))).all (fun x=>decide (x.length<=100))=true:=by decide
theorem zk0 {k:List UInt8} (h:zfw k≠0):k.length<=100:=by
 have hm:k∈words4++(words3++(words2++words1)):=by
  unfold zfw at h;rw [List.mem_append,List.mem_append,List.mem_append];rcases zfy _ _ h with h|h
  ·exact .inl h
  ·rcases zfy _ _ h with h|h
   ·exact .inr (.inl h)
   ·rcases zfy _ _ h with h|h
    ·exact .inr (.inr (.inl h))
    ·rcases zfy _ _ h with h|h
     ·exact .inr (.inr (.inr h))
     ·exact absurd rfl h
 exact zza (zzp.1 zlv _ hm)
theorem zfH {s:ByteArray} {n c:Int} (h:(zbu s n==c)=true) (hc:c≠0):s.size<=100:=by
 have h:=eq_of_beq h;unfold zbu at h;split at h
 ·exact absurd h.symm hc
 ·have:=zk0 (k:=s.data.toList++ [47]++txt n) (by rw [h];exact hc)
  rw [zzq1,zzq1,Array.length_toList]at this;show s.data.size<=100;omega
theorem znP {x:RIns} (h:zbh x=true) (ho:x.op=13\/x.op=14\/x.op=15):x.name.size<=100:=by
 unfold zbh at h;split at h
 ·rw [Bool.or_eq_true,Bool.or_eq_true,Bool.or_eq_true,zzq6,zzq6]at h
  rcases h with(h|h)|(h|h)
  ·rw [zen h];decide
  ·rw [zen h.1];decide
  ·exact zjS h.2
  ·exact zfH h (by decide)
 ·split at h
  ·rw [Bool.or_eq_true,Bool.or_eq_true]at h
   rcases h with(h|h)|h
   ·exact zjS h
   ·exact zfH h (by decide)
   ·exact zfH h (by decide)
  ·split at h
   ·rw [Bool.or_eq_true,zzq6]at h
    rcases h with h|h
    ·rw [zen h.1];decide
    ·exact zfH h (by decide)
   ·omega
theorem zjc {nf:Nat} {funs:List RFun} {x:RIns} (hf:nf<=200) (hg:funs.length<=1000) (h:zl nf funs x=true)
  (ho:x.op=4\/x.op=5\/x.op=9\/x.op=15\/x.op=16\/x.op=17\/x.op=18\/x.op=19\/x.op=20\/x.op=21\/x.op=24\/x.op=31\/x.op=32\/x.op=33):0<=x.n/\x.n<=1000000:=by
 unfold zl at h;split at h
 ·rw [zzq6]at h;have:=zcb h.1;omega
 ·split at h
  ·have:=zcb h;omega
  ·split at h
   ·have:=zcb h;omega
   ·split at h
    ·have:=zcb h;omega
    ·split at h
     ·have:=zcb h;omega
     ·split at h
      ·have:=zcb h;omega
      ·split at h
       ·have:=zcb h;omega
       ·split at h
        ·rw [Bool.or_eq_true,zzq7,zzq7]at h;omega
        ·omega
theorem zig {u:RUnit} {i:Nat} {x:RIns} (ht:TabOk u) (h:zep u i x=true):WIns (zr x.op).1.toNat x:=by
 unfold zep at h;simp only [zzq6]at h;obtain⟨h0,h1,h2,h3,h4,h5⟩:=h;have hop:1<=x.op/\x.op<=40:=by unfold zdi at h0;exact zza h0
 obtain⟨r16,r8,r4,rhi⟩:=zlk hop;obtain⟨l1,l2,l3⟩:= @zgK x.op;generalize(zr x.op).1.toNat=h at *;unfold zQ at h1;simp only [zzq6]at h1;obtain⟨f1,f2,f3,f4,f5,f6,f7,f8,f9,f10⟩:=h1;have w3:=zcb f3;have w4:=zcb f4;have hlit:=ht.lits;have hcode:=ht.code1;unfold zbo at h4;simp only [zzq6,zzq7]at h4;obtain⟨⟨g1,g2⟩,g3,g4⟩:=h4
 have hto:0<=x.to/\x.to<=1000000/\(∀c∈x.cases,0<=c.to/\c.to<=1000000):=by
  unfold zbT at h5;split at h5
  ·rename_i ho
   rw [zzq6]at h5;have:=zcb h5.1;refine⟨by omega,by omega,fun c hc=>?_⟩
   have hn:zm h 16=false:=by
    cases e:zm h 16 with
    |false=>rfl
    |true=>have:=r16 e;omega
   rw [hn,zzq9]at f9;have:=eq_of_beq f9;rw [List.length_eq_zero_iff]at this;rw [this]at hc;cases hc
  ·rw [zzq6]at h5
   refine⟨?_,?_,fun c hc=>?_⟩
   ·exact zz79
   ·exact zz79
   ·have:=zcb (zzp.1 h5.1 c hc);omega
 refine⟨by omega,by omega,fun e=>?_,fun a ha=>zgz hlit (zzp.1 f2 a ha),by omega,?_,?_,?_,fun c hc=>?_,?_,fun g hg=>?_,by omega,hto.1,hto.2.1,by omega,by omega⟩
 ·unfold zfi at f1
  rw [if_pos e,zzq6]at f1;exact zgz hlit f1.2
 ·cases e:zm h 4 with
  |false=>rw [e,zzq9]at f5;have:=eq_of_beq f5;omega
  |true=>exact(zjc ht.funcs ht.funs h2 (r4 e)).1
 ·cases e:zm h 4 with
  |false=>rw [e,zzq9]at f5;have:=eq_of_beq f5;omega
  |true=>exact(zjc ht.funcs ht.funs h2 (r4 e)).2
 ·cases e:zm h 8 with
  |false=>
   rw [e,zzq9,List.isEmpty_iff]at f6;have:=zgl x.name;rw [f6]at this;simp at this;omega
  |true=>exact zzY (znP h3 (r8 e)) (by omega)
 ·obtain⟨k,hk,rfl⟩:=List.getElem_of_mem hc
  have:=zza g3 k hk;unfold zca at this;rw [zzq6,zgw hk]at this;have:=zcb this.1;exact⟨by omega,by omega,hto.2.2 _ hc⟩
 ·cases e:zm h 16 with
  |false=>rw [e,zzq9]at f9;have:=eq_of_beq f9;omega
  |true=>
   have h12:=r16 e;rw [Bool.or_eq_true]at g1;rcases g1 with g1|g1
   ·rw [h12]at g1;cases g1
   ·have:=zcb g1;omega
 ·have:=zzp.1 g4 g hg
  unfold zbN at this;simp only [zzq6]at this;obtain⟨s1,s2,s3,_⟩:=this;have s1:=zcb s1;refine⟨by omega,by omega,zgz hlit s2,?_⟩;rw [Bool.or_eq_true,zzq6,zzq7,zzq7]at s3;rcases s3 with s3|s3
  ·exact⟨by omega,by omega,by omega,by omega⟩
  ·exact zgz hlit s3
def beN:Nat->Int->List UInt8
 |0,_=>[]
 |k+1,n=>UInt8.ofNat (n/2^(8*k)%256).toNat::beN k n
def leN:Nat->Nat->List UInt8
 |0,_=>[]
 |f+1,u=>if u=0 then []else UInt8.ofNat u::leN f (u/256)
def zE (s:ByteArray):List UInt8:=119::UInt8.ofNat s.size::s.data.toList
def zgU (n:Int):List UInt8:=110::UInt8.ofNat (leN 8 n.natAbs).length::(if n<0 then 1 else 0)::leN 8 n.natAbs
def zbJ (n:Int):List UInt8:=if 0<=n/\n<=255 then [97,UInt8.ofNat n.toNat]else if -2147483648<=n/\n<=2147483647 then 98::beN 4 n else zgU n
def zx (t:Tm):List UInt8:=
 if t.kind=1 then zbJ t.int
 else if t.kind=2 then zE t.name
 else if t.kind=3 then 90::0::1::(zE t.name++(beN 4 t.gen++beN 4 t.int))
 else if t.kind=4 then 112::UInt8.ofNat t.arity.toNat::(beN 2 t.int++(UInt8.ofNat t.items.length::(zE t.name++beN 4 t.gen)))
 else if t.kind=5 then 113::(zE t.name++(zE t.func++zbJ t.arity))
 else if t.kind=6 then 88::(zE t.name++(beN 4 t.int++(beN 4 0++beN 4 t.gen)))
 else if t.kind=7 then [104,UInt8.ofNat t.items.length]
 else if t.kind=8 then [106]
 else if t.kind=9 then 108::beN 4 ((t.items.length:Int)-1)
 else if t.kind=10 then(if t.bits%8=0 then 109::(beN 4 t.bytes.size++t.bytes.data.toList)else 77::(beN 4 t.bytes.size++(UInt8.ofNat (t.bits%8).toNat::t.bytes.data.toList)))
 else []
def zF:Nat->Tm->List UInt8
 |0,_=>[]
 |f+1,t=>zx t++t.items.flatMap (zF f)
def zc9 (f:Nat) (t:Tm):List UInt8:=131::zF f t
theorem zi: ∀(k:Nat) (n:Int),(beN k n).length=k
 |0,_=>rfl
 |k+1,n=>by show(beN k n).length+1=k+1;rw [zi k n]
theorem zi8: ∀(f n:Nat),(leN f n).length<=f
 |0,_=>zzL _
 |f+1,n=>by
  unfold leN;split
  ·simp
  ·have:=zi8 f (n/256);simp;omega
theorem zh (s:ByteArray):(zE s).length=s.size+2:=by
 show s.data.toList.length+2=s.size+2;rw [Array.length_toList];rfl
theorem zh3 (n:Int):(zbJ n).length<=11:=by
 unfold zbJ;split
 ·simp
 ·split
  ·have:=zi 4 n;simp;omega
  ·have:=zi8 8 n.natAbs;unfold zgU;simp;omega
theorem zJ {s:ByteArray} (h:zw s=true):s.size<=32:=by
 unfold zw at h;rw [zzq6,zzq6,zzq7,zzq7]at h;exact h.1.2
theorem zeQ {n a b:Int} (h:wi n a b=true):a<=n/\n<=b:=by
 exact zz72
theorem zgh {y:ByteArray} {z:Int} (h:zcf y z=true):0<=z/\z<=16384/\(y.size:Int)=(z+7)/8:=by
 unfold zcf at h;rw [zzq6,zzq6,zzq7]at h;have:=zeQ h.1.1;exact⟨this.1,this.2,h.1.2⟩
theorem zgd {t:Tm} (h:okK t=true):(zx t).length<=2200/\1<=zR t:=by
 by_cases h1:t.kind=1
 ·unfold zx zR;have:=zh3 t.int;simp [h1];omega
 by_cases h2:t.kind=2
 ·have hn:zw t.name=true:=by unfold okK at h;simpa [h2] using h
  have:=zJ hn;have:=zh t.name;unfold zx zR;simp [h2];omega
 by_cases h3:t.kind=3
 ·have hn:zw t.name=true:=by unfold okK at h;simp [h3]at h;exact h.2
  have:=zJ hn;have:=zh t.name;have:=zi 4 t.gen;have:=zi 4 t.int;unfold zx zR;simp [h3];omega
 by_cases h4:t.kind=4
 ·have hn:zw t.name=true:=by unfold okK at h;simp [h4]at h;exact h.1.1.2
  have:=zJ hn;have:=zh t.name;have:=zi 4 t.gen;have:=zi 2 t.int;unfold zx zR;simp [h4];omega
 by_cases h5:t.kind=5
 ·have hn:zw t.name=true/\zw t.func=true:=by unfold okK at h;simp [h5]at h;exact h.1
  have:=zJ hn.1;have:=zJ hn.2;have:=zh t.name;have:=zh t.func;have:=zh3 t.arity;unfold zx zR;simp [h5];omega
 by_cases h6:t.kind=6
 ·have hn:zw t.name=true:=by unfold okK at h;simp [h6]at h;exact h.2
  have:=zJ hn;have:=zh t.name;have:=zi 4 t.gen;have:=zi 4 t.int;have:=zi 4 0;unfold zx zR;simp [h6];omega
 by_cases h7:t.kind=7
 ·unfold zx zR;simp [h7]
 by_cases h8:t.kind=8
 ·unfold zx zR;simp [h8]
 by_cases h9:t.kind=9
 ·have hn:2<=t.items.length:=by unfold okK at h;simp [h9]at h;exact h.1
  have:=zi 4 ((t.items.length:Int)-1);unfold zx zR;simp [h9];omega
 by_cases h10:t.kind=10
 ·have hn:zcf t.bytes t.bits=true:=by unfold okK at h;simp [h10]at h;exact h
  obtain⟨b0,b1,b2⟩:=zgh hn;have hl:t.bytes.data.toList.length=t.bytes.size:=by rw [Array.length_toList];rfl
  have:=zi 4 (t.bytes.size:Int);unfold zx zR;rw [if_neg h1,if_neg h2,if_neg h3,if_neg h4,if_neg h5,if_neg h6,if_neg h7,if_neg h8,if_neg h9,if_pos h10,if_neg h9,if_pos h10];refine⟨?_,by omega⟩;split<;>(simp only [zzq18,zzq1];omega)
 exact absurd h (by rw [zeD (by omega)];decide)
theorem zjB: ∀(f:Nat) (t:Tm),zj f t=true->((zF f t).length:Int)<=2200*zt f t
 |0,_,h=>by cases h
 |f+1,t,h=>by
  have hl:zcm t=true/\t.items.all (zj f)=true:=by unfold zj at h;rwa [zzq6]at h
  have h1:okK t=true:=by have:=hl.1;unfold zcm at this;rw [zzq6]at this;exact this.1
  have hh:=zgd h1
  have hi: ∀(l:List Tm),l.all (zj f)=true->((l.flatMap (zF f)).length:Int)<=2200*zbB (l.map (zt f)):=by
   intro l
   induction l with
   |nil=>intro _;simp [zbB]
   |cons a l ih=>
    intro ha;rw [List.all_cons,zzq6]at ha;have e1:=zjB f a ha.1;have e2:=ih ha.2;simp only [List.flatMap_cons,zzq1,List.map_cons,zbB];omega
  have:=hi t.items hl.2;show(((zx t++t.items.flatMap (zF f)).length:Nat):Int)<=2200*(zR t+zbB (t.items.map (zt f)));rw [zzq1];omega
theorem ze5 {f:Nat} {t:Tm} (h:zA f t=true):(zc9 f t).length<=4400001:=by
 unfold zA at h;rw [zzq6,zzq7]at h;have:=zjB f t h.1;show(zF f t).length+1<=_;omega
def RdAt (r:Nat) (s:ByteArray) (at' p:Nat) (w:World):Prop:=w.heap[r]?=some (.cells #[.string s,.int .i64 at',.int .i64 p] 214 (0,0))
abbrev refused:Ending:=.panicked [{v:=.iface 210 (.agg #[]),recovered:=false}]
theorem RdAt.lt {r:Nat} {s:ByteArray} {a p:Nat} {w:World} (h:RdAt r s a p w):r<w.heap.size:=zc h
theorem RdAt.cells {r:Nat} {s:ByteArray} {a p:Nat} {w:World} (h:RdAt r s a p w):w.cell? ⟨r,0,none⟩=some (.string s)/\w.cell? ⟨r,1,none⟩=some (.int .i64 a)/\w.cell? ⟨r,2,none⟩=some (.int .i64 p)/\w.frozen? ⟨r,1,none⟩=false/\w.frozen? ⟨r,2,none⟩=false:=by
 have hc:=fun j=>zzq2 w r j _ _ _ h
 exact⟨hc 0,hc 1,hc 2,Lib.frozen_of_heap h 1,Lib.frozen_of_heap h 2⟩
theorem RdAt.below {r:Nat} {s:ByteArray} {a p:Nat} {w w':World} (h:RdAt r s a p w) (hb:Below w.heap.size w w'):RdAt r s a p w':=(hb.block r h.lt).trans h
theorem zW (v:Value) (w:World):Calls Tryz.prog 152 #[v,.bool true] w fun e w'=>e= .returned (.tuple #[])/\w=w':=by
 go_in;go_wp2;go_end0;exact⟨rfl,rfl⟩
theorem zco (v:Value) (w:World):Calls Tryz.prog 152 #[v,.bool false] w fun e w'=>e=refused/\w=w':=by
 go_in;go_wp2;exact⟨rfl,rfl,rfl⟩
theorem zkP (r:Nat) (s:ByteArray) (a p n:Nat) (w:World) (h:RdAt r s a p w) (hn:a+n<=s.size) (hs:s.size<=9223372036854775807):
  Calls Tryz.prog 177 #[.pointer (some ⟨r,0,none⟩),.int .i64 n] w fun e w'=>e= .returned (.string (s.extract a (a+n)))/\RdAt r s (a+n) p w'/\w.grownBy w' (some r):=by
 obtain⟨c0,c1,c2,f1,f2⟩:=h.cells;have hr:=h.lt;have hle:decide ((n:Int)<=(s.size:Int)-(a:Int))=true:=zzT (by omega);have hw1:IntKind.i64.wrap ((s.size:Int)-(a:Int))=(s.size:Int)-(a:Int):=by rw [zzq5];omega
 go_in;go_wp2_with fail;go_quiet ((go_at_call 152;exact zze ((zW _ _).mono fun _ _ ⟨a,b⟩=>⟨a,b.symm⟩)));go_upto_region 3 with fail
 have hq:RdAt r s (a+n) p ((w.drewN nq).setCell ⟨r,1,none⟩ (.int .i64 ((a:Int)+(n:Int)))):=by
  have:=zzS (w.drewN nq) r 1 _ _ (.int .i64 ((a:Int)+(n:Int))) h;refine this.trans ?_;rw [show((a:Int)+(n:Int))=((a+n:Nat):Int)by omega];rfl
 have hg:w.grownBy ((w.drewN nq).setCell ⟨r,1,none⟩ (.int .i64 ((a:Int)+(n:Int)))) (some r):=zk (zg2 (zcP w (some r)) nq) (zc1 _ r 1 _);have HQ:=zzH hq;have HG:=zzH hg;obtain⟨d0,d1,d2,-,-⟩:=hq.cells;have hrl:=hq.lt;clear hq hg c0 c1 c2 f1 f2 hr hle hw1;generalize(w.drewN nq).setCell ⟨r,1,none⟩ (.int .i64 ((a:Int)+(n:Int)))=W at *;have hw2:IntKind.i64.wrap (((a+n:Nat):Int)-(n:Int))=(a:Int):=by rw [zzq5];omega
 have h1:((a+n:Nat):Int)<=(s.size:Int):=by omega
 have h2:(a:Int)<=((a+n:Nat):Int):=by omega
 generalize hb:a+n=b at *;have HBE:=zzH hb;clear hb hn;go_quiet (fail);go_wp2;go_ret;exact⟨congrArg (fun z=>Ending.returned (.string (s.extract a z))) HBE.out.symm,by rw [HBE.out];exact HQ.out,zg2 HG.out _⟩
theorem zl0 (r:Nat) (s:ByteArray) (a p n:Nat) (w:World) (h:RdAt r s a p w) (ha:a<=s.size) (hn:s.size<a+n) (hn2:n<=9223372036854775807) (hs:s.size<=9223372036854775807):
  Calls Tryz.prog 177 #[.pointer (some ⟨r,0,none⟩),.int .i64 n] w fun e w'=>e=refused/\w.grownBy w' (some r):=by
 obtain⟨c0,c1,c2,f1,f2⟩:=h.cells;have hr:=h.lt;have hle:decide ((n:Int)<=(s.size:Int)-(a:Int))=false:=zzD (by omega);have hw1:IntKind.i64.wrap ((s.size:Int)-(a:Int))=(s.size:Int)-(a:Int):=by rw [zzq5];omega
 have HK:=zzH (zY (zzR w.heap.size w).drew);have HG:Hid (w.grownBy w.drew (some r)):=zzH (zfX (zcP w _));go_in;go_wp2_with fail;go_region_dies
 all_goals(go_wp2_with (go_at_call 152;refine(zco _ _).mono ?_;rintro e w1 ⟨rfl,rfl⟩))
 all_goals exact⟨rfl,rfl,HG.out⟩
def beV (l:List UInt8):Nat:=l.foldl (fun n c=>256*n+c.toNat) 0
theorem zqE (l:List UInt8) (c:UInt8):beV (l++ [c])=256*beV l+c.toNat:=by
 unfold beV;rw [List.foldl_append];rfl
def zuJ (B:Nat) (l:List UInt8) (w:World):Prop:= ∀j (h:j<l.length),w.cell? ⟨B,j,none⟩=some (.int .u8 (l[j].toNat:Int))
theorem zm3 (s:ByteArray) (w:World): ∃cap W1,(convert 9 65 (.string s)).run Tryz.prog w= .ok (.slice (some ⟨w.heap.size,0,none⟩) s.size cap) W1/\zuJ w.heap.size s.data.toList W1/\Below w.heap.size w W1/\w.heap.size<W1.heap.size:=by
 refine⟨_,_,Go.Lib.run_convert_string_bytes w _ _ _ s Tryz.underlying9 Tryz.underlying65 Tryz.underlying5,?_,?_,?_⟩
 ·intro j hj
  have hj2:j<s.size:=hj;rw [Lib.bytesWorld_cell w _ s j hj2];simp [List.getD,hj2]
 ·exact⟨rfl,rfl,rfl,by rw [Lib.bytesWorld_size];omega,fun k hk=>Lib.bytesWorld_at_old w _ s k hk⟩
 ·rw [Lib.bytesWorld_size];omega
theorem zq7 {s:ByteArray} {a k:Nat} (hn:a+k<=s.size):((s.data.toList.drop a).take k).length=k:=by
 rw [List.length_take,List.length_drop,Array.length_toList];change min k (s.size-a)=k;omega
theorem zkX (s:ByteArray) (a k:Nat):(s.extract a (a+k)).data.toList=(s.data.toList.drop a).take k:=by
 rw [ByteArray.data_extract,Array.toList_extract,List.extract_eq_take_drop,Nat.add_sub_cancel_left]
theorem zrA {s:ByteArray} {a k:Nat} (hn:a+k<=s.size):(s.extract a (a+k)).size=k:=by
 rw [ByteArray.size_extract];omega
theorem zor: ∀(l:List UInt8) (n:Nat),l.foldl (fun n c=>256*n+c.toNat) n<(n+1)*256^l.length
 |[],n=>by simp
 |c::l,n=>by
  have h:=zor l (256*n+c.toNat);have hc:=c.toNat_lt;refine zzW h ?_;rw [zzq18,Nat.pow_succ,Nat.mul_comm (256^l.length) 256,<-Nat.mul_assoc];exact Nat.mul_le_mul_right _ (by omega)
theorem zkB (l:List UInt8):beV l<256^l.length:=by have:=zor l 0;rw [Nat.zero_add,Nat.one_mul]at this;exact this
theorem zue (a b:Nat) (ha:a<9223372036854775808) (hb:b<9223372036854775808):bits .or .i64 (a:Int) (b:Int)=((a |||b:Nat):Int):=by
 exact zz13
theorem zt6 (n c:Nat) (hn:n<16777216) (hc:c<256):bits .or .i64 ((n:Int)*256) (c:Int)=((256*n+c:Nat):Int):=by
 rw [show((n:Int)*256)=((256*n:Nat):Int)by omega,zue _ _ (by omega) (by omega)];exact zz80
theorem ziG (r:Nat) (s:ByteArray) (a p k:Nat) (w:World) (h:RdAt r s a p w) (hn:a+k<=s.size) (hs:s.size<=9223372036854775807) (hk:k<=4):
  Calls Tryz.prog 175 #[.pointer (some ⟨r,0,none⟩),.int .i64 k] w fun e w'=>e= .returned (.int .i64 (beV ((s.data.toList.drop a).take k)))/\RdAt r s (a+k) p w'/\w.grownBy w' (some r):=by
 have hsz:=zrA hn;have hll:=zkX s a k;have hlen:=zq7 (s:=s) hn;generalize(s.data.toList.drop a).take k=l at *;go_in;go_wp2_with (go_at_call 177;refine(zkP r s a p k _ h hn hs).mono ?_;rintro e w1 ⟨rfl,hr1,hg1⟩;obtain⟨cap,W1,hcv,hB,hb,hlt⟩:=zm3 (s.extract a (a+k)) w1);rw [hll]at hB;have HR:=zzH (hr1.below hb);have HG:Hid (w.grownBy W1 (some r)):=zzH (zk hg1 (zbr hb _));clear h hr1 hg1 hb hll hsz hcv;have HB:=zzH hB;clear hB;generalize w1.heap.size=g at *;clear hlt;go_loop [5,13] (fun n i=> ∃j:Nat,j<=k/\i= .int .i64 j/\n= .int .i64 (beV (l.take j))) (fun _ i=>k-(intOf i).toNat)
 case atStart=>exact⟨0,zzZ _,rfl,rfl⟩
 case round=>
  obtain⟨j,hj,rfl,rfl⟩:=hrel;by_cases hlt:j<k
  ·have hjl:j<l.length:=by omega
   have hc:=HB.out j hjl;have hv:Hid (beV (l.take (j+1))=256*beV (l.take j)+(l[j]'hjl).toNat):=zzH (by rw [List.take_succ_eq_append_getElem hjl,zqE])
   have hm:beV (l.take j)<16777216:=by
    have:=zkB (l.take j);rw [List.length_take]at this;refine zzW this ?_;exact Nat.pow_le_pow_right (by omega) (show min j l.length<=3 by omega)
   have hcl:=(l[j]'hjl).toNat_lt;generalize(l[j]'hjl).toNat=c at *;generalize beV (l.take j)=n at *;have HO:=zzH (zt6 n c hm (by omega));go_wp2;go_round
   case rel=>exact⟨j+1,by omega,by go_num,by rw [HO.out,hv.out]⟩
   case measure=>simp [intOf];omega
  ·have hj2:j=k:=by omega
   have ht:Hid (beV (l.take j)=beV l):=zzH (by rw [List.take_of_length_le (by omega)]);go_wp2;go_ret;exact⟨congrArg (fun z:Nat=>Ending.returned (.int .i64 (z:Int))) (by rw [<-hj2];exact ht.out),HR.out,HG.out⟩
theorem zjF (r:Nat) (s:ByteArray) (a p k:Nat) (w:World) (h:RdAt r s a p w) (ha:a<=s.size) (hn:s.size<a+k) (hs:s.size<=9223372036854775807) (hk:k<=4):
  Calls Tryz.prog 175 #[.pointer (some ⟨r,0,none⟩),.int .i64 k] w fun e w'=>e=refused/\w.grownBy w' (some r):=by
 go_in;go_wp2_with (go_at_call 177;refine(zl0 r s a p k _ h ha hn (by omega) hs).mono ?_;rintro e w1 ⟨rfl,hg1⟩);exact⟨rfl,rfl,hg1⟩
theorem drop_one {s:ByteArray} {a:Nat} {c:UInt8} {l:List UInt8} (h:s.data.toList.drop a=c::l):a+1<=s.size/\s.data.toList.drop (a+1)=l/\beV ((s.data.toList.drop a).take 1)=c.toNat:=by
 have hl:(s.data.toList.drop a).length=l.length+1:=by rw [h];rfl
 rw [List.length_drop,Array.length_toList]at hl;change s.size-a=l.length+1 at hl;refine⟨by omega,?_,?_⟩
 ·rw [<-List.drop_drop,h];rfl
 ·rw [h];simp [beV]
theorem zrd {s:ByteArray} {a:Nat} (h:s.data.toList.drop a= []):s.size<a+1:=by
 have hl:(s.data.toList.drop a).length=0:=by rw [h];rfl
 rw [List.length_drop,Array.length_toList]at hl;change s.size-a=0 at hl;omega
theorem zle (r:Nat) (s:ByteArray) (a p:Nat) (c:UInt8) (l:List UInt8) (w:World) (h:RdAt r s a p w) (hn:s.data.toList.drop a=c::l) (hs:s.size<=9223372036854775807):
  Calls Tryz.prog 173 #[.pointer (some ⟨r,0,none⟩)] w fun e w'=>e= .returned (.int .i64 c.toNat)/\RdAt r s (a+1) p w'/\w.grownBy w' (some r):=by
 have hd:=drop_one hn;generalize c.toNat=n at *;go_in;go_wp2_with (go_at_call 175;refine(ziG r s a p 1 _ h hd.1 hs (by omega)).mono ?_;rintro e w1 ⟨rfl,hr1,hg1⟩);go_ret;exact⟨congrArg (fun z:Nat=>Ending.returned (.int .i64 (z:Int))) (by have h9:=hd.2.2;rw [hn]at h9;exact h9),hr1,hg1⟩
theorem zs8 (r:Nat) (s:ByteArray) (a p:Nat) (w:World) (h:RdAt r s a p w) (ha:a<=s.size) (hn:s.data.toList.drop a= []) (hs:s.size<=9223372036854775807):
  Calls Tryz.prog 173 #[.pointer (some ⟨r,0,none⟩)] w fun e w'=>e=refused/\w.grownBy w' (some r):=by
 have hd:=zrd hn;go_in;go_wp2_with (go_at_call 175;refine(zjF r s a p 1 _ h ha hd hs (by omega)).mono ?_;rintro e w1 ⟨rfl,hg1⟩);exact⟨rfl,rfl,hg1⟩
def RdL (r:Nat) (s:ByteArray) (l:List UInt8) (p:Nat) (w:World):Prop:= ∃a:Nat,RdAt r s a p w/\a<=s.size/\s.data.toList.drop a=l/\s.size<=9223372036854775807
theorem RdL.lt {r:Nat} {s:ByteArray} {l:List UInt8} {p:Nat} {w:World} (h:RdL r s l p w):r<w.heap.size:=by obtain⟨a,h,-⟩:=h;exact h.lt
theorem RdL.below {r:Nat} {s:ByteArray} {l:List UInt8} {p:Nat} {w w':World} (h:RdL r s l p w) (hb:Below w.heap.size w w'):RdL r s l p w':=by
 obtain⟨a,h,h2⟩:=h;exact⟨a,h.below hb,h2⟩
theorem zfb {s:ByteArray} {a:Nat} {l:List UInt8} (ha:a<=s.size) (h:s.data.toList.drop a=l):a+l.length=s.size:=by
 rw [<-h,List.length_drop,Array.length_toList];change a+(s.size-a)=s.size;omega
def ze3 {α:Type} (r:Nat) (s:ByteArray) (p:Nat) (w:World) (val:α->Value) (d:Option (α × List UInt8)) (e:Ending) (w':World):Prop:=
 match d with
 |none=>e=refused/\w.grownBy w' (some r)
 |some (v,l)=>e= .returned (val v)/\RdL r s l p w'/\w.grownBy w' (some r)
def zcz (k:Nat) (l:List UInt8):Option (ByteArray × List UInt8):=if k<=l.length then some (⟨(l.take k).toArray⟩,l.drop k)else none
def zbz (k:Nat) (l:List UInt8):Option (Nat × List UInt8):=if k<=l.length then some (beV (l.take k),l.drop k)else none
def zH (l:List UInt8):Option (Nat × List UInt8):=match l with|[]=>none|c::l=>some (c.toNat,l)
def zck (l:List UInt8):Option (ByteArray × List UInt8):=(zH l).bind fun x=>if x.1=119 then(zH x.2).bind fun y=>zcz y.1 y.2 else none
theorem zg5 (r:Nat) (s:ByteArray) (l:List UInt8) (p k:Nat) (w:World) (h:RdL r s l p w) (hk:k<=9223372036854775807):
  Calls Tryz.prog 177 #[.pointer (some ⟨r,0,none⟩),.int .i64 k] w (ze3 r s p w Value.string (zcz k l)):=by
 obtain⟨a,h,ha,hl,hs⟩:=h;have hn:=zfb ha hl;by_cases c:k<=l.length
 ·rw [show zcz k l=some (⟨(l.take k).toArray⟩,l.drop k)from if_pos c]
  refine(zkP r s a p k w h (by omega) hs).mono ?_;rintro e w' ⟨rfl,hr,hg⟩;refine⟨congrArg (fun z=>Ending.returned (.string z)) ?_,⟨a+k,hr,by omega,by rw [<-hl,List.drop_drop],hs⟩,hg⟩;apply ByteArray.ext;apply Array.ext';rw [zkX,hl]
 ·rw [show zcz k l=none from if_neg c]
  exact zl0 r s a p k w h ha (by omega) hk hs
theorem zcX (r:Nat) (s:ByteArray) (l:List UInt8) (p k:Nat) (w:World) (h:RdL r s l p w) (hk:k<=4):
  Calls Tryz.prog 175 #[.pointer (some ⟨r,0,none⟩),.int .i64 k] w (ze3 r s p w (fun n:Nat=>Value.int .i64 n) (zbz k l)):=by
 obtain⟨a,h,ha,hl,hs⟩:=h;have hn:=zfb ha hl;by_cases c:k<=l.length
 ·rw [show zbz k l=some (beV (l.take k),l.drop k)from if_pos c]
  refine(ziG r s a p k w h (by omega) hs hk).mono ?_;rintro e w' ⟨rfl,hr,hg⟩;exact⟨by rw [hl],⟨a+k,hr,by omega,by rw [<-hl,List.drop_drop],hs⟩,hg⟩
 ·rw [show zbz k l=none from if_neg c]
  exact zjF r s a p k w h ha (by omega) hs hk
theorem zbI (r:Nat) (s:ByteArray) (l:List UInt8) (p:Nat) (w:World) (h:RdL r s l p w):
  Calls Tryz.prog 173 #[.pointer (some ⟨r,0,none⟩)] w (ze3 r s p w (fun n:Nat=>Value.int .i64 n) (zH l)):=by
 obtain⟨a,h,ha,hl,hs⟩:=h
 cases l with
 |nil=>exact zs8 r s a p w h ha hl hs
 |cons c l=>
  refine(zle r s a p c l w h hl hs).mono ?_;rintro e w' ⟨rfl,hr,hg⟩;have:=zfb ha hl;exact⟨rfl,⟨a+1,hr,by rw [zzq18]at this;omega,(drop_one hl).2.1,hs⟩,hg⟩
theorem zgR {l:List UInt8} {x:Nat × List UInt8} (h:zH l=some x):x.1<256:=by
 cases l with
 |nil=>exact absurd h (by simp [zH])
 |cons c l=>simp only [zH,Option.some.injEq]at h;rw [<-h];exact c.toNat_lt
theorem zg4 (r:Nat) (s:ByteArray) (l:List UInt8) (p:Nat) (w:World) (h:RdL r s l p w):
  Calls Tryz.prog 180 #[.pointer (some ⟨r,0,none⟩)] w (ze3 r s p w Value.string (zck l)):=by
 have HP:Hid (ze3 r s p w Value.string (zck l)=ze3 r s p w Value.string (zck l)):=zzH rfl;generalize hQ:ze3 r s p w Value.string (zck l)=Q at *;have HQ:=zzH hQ;clear HP hQ;have HD:Hid (zck l=(zH l).bind fun x=>if x.1=119 then(zH x.2).bind fun y=>zcz y.1 y.2 else none):=zzH rfl;have hb:=zbI r s l p w h;have HB:=zzH hb;clear hb;go_in;rcases hx:zH l with _|⟨n,l1⟩
 ·exact zz82
 ·rw [hx]at HB HD
  by_cases c:n=119
  ·subst c
   go_wp2_with (go_at_call 173;refine HB.out.mono ?_;rintro e w1 ⟨rfl,hr,hg⟩);rw [zzq0,if_pos rfl]at HD;go_wp2_with (go_at_call 152;refine(zW _ _).mono ?_;rintro e w2 ⟨rfl,rfl⟩);have HB1:=zzH (zbI r s l1 p _ hr);rcases hy:zH l1 with _|⟨m,l2⟩
   ·exact zz81
   ·rw [hy]at HB1 HD
    have hm:m<256:=zgR hy;go_wp2_with (go_at_call 173;refine HB1.out.mono ?_;rintro e w2 ⟨rfl,hr2,hg2⟩);have HB2:=zzH (zg5 r s l2 p m _ hr2 (by omega));rw [zzq0]at HD;rcases hz:zcz m l2 with _|⟨b,l3⟩
    ·rw [hz]at HB2
     go_wp2_with (go_at_call 177;refine HB2.out.mono ?_;rintro e w3 ⟨rfl,hg3⟩);exact⟨rfl,by rw [<-HQ.out,HD.out,hz];exact⟨rfl,zk hg (zk hg2 hg3)⟩⟩
    ·rw [hz]at HB2
     go_wp2_with (go_at_call 177;refine HB2.out.mono ?_;rintro e w3 ⟨rfl,hr3,hg3⟩);rw [<-HQ.out,HD.out,hz];exact⟨rfl,hr3,zk hg (zk hg2 hg3)⟩
  ·rw [zzq0,if_neg c]at HD
   have hne:((n:Int)==119)=false:=zzB.2 (by omega);go_wp2_with (go_at_call 173;refine HB.out.mono ?_;rintro e w1 ⟨rfl,hr,hg⟩);go_wp2_with (go_at_call 152;refine(zco _ _).mono ?_;rintro e w2 ⟨rfl,rfl⟩);exact⟨rfl,by rw [<-HQ.out,HD.out];exact⟨rfl,hg⟩⟩
def leV:List UInt8->Nat
 |[]=>0
 |c::l=>256*leV l+c.toNat
def zeu (sg:Nat) (b:ByteArray):Option Int:=
 if b.data.toList.getD (b.size-1) 0=0 then none
 else if sg=1 then(if leV b.data.toList<=9223372036854775808/\2147483648<leV b.data.toList then some (-(leV b.data.toList:Int))else none)
 else if leV b.data.toList<9223372036854775808/\2147483648<=leV b.data.toList then some (leV b.data.toList)else none
def zdO (l:List UInt8):Option (Int × List UInt8):=(zH l).bind fun x=>(zH x.2).bind fun y=>if 4<=x.1/\x.1<=8/\y.1<=1 then(zcz x.1 y.2).bind fun z=>(zeu y.1 z.1).bind fun v=>some (v,z.2)else none
theorem zlb: ∀l:List UInt8,leV l<256^l.length
 |[]=>by simp [leV]
 |c::l=>by
  have h:=zlb l;have hc:=c.toNat_lt;rw [zzq18,Nat.pow_succ];unfold leV;omega
theorem zjJ {k:Nat} {l:List UInt8} {b:ByteArray} {l2:List UInt8} (h:zcz k l=some (b,l2)):b.size=k:=by
 unfold zcz at h;split at h
 ·next c=>
  simp only [zzX0]at h;rw [<-h.1];show(l.take k).toArray.size=k;rw [List.size_toArray,List.length_take];omega
 ·exact zz83
theorem zrm (n c:Nat) (hn:n<72057594037927936) (hc:c<256):bits .or .u64 ((n:Int)*256) (c:Int)=((256*n+c:Nat):Int):=by
 rw [show((n:Int)*256)=((256*n:Nat):Int)by omega,bits_or_u64_nat _ _ (by omega) (by omega)];exact zz80
theorem zq1 {l:List UInt8} {j:Nat} (h:j<l.length):leV (l.drop j)=256*leV (l.drop (j+1))+(l[j]).toNat:=by
 rw [List.drop_eq_getElem_cons h];rfl
theorem zuh {l:List UInt8} {j n:Nat} (h:l.length<=8) (hj:0<j):leV (l.drop j)<72057594037927936:=by
 have:=zlb (l.drop j);rw [List.length_drop]at this;refine zzW this ?_;exact Nat.pow_le_pow_right (by omega) (show l.length-j<=7 by omega)
theorem zum (u:Nat) (h:u<=9223372036854775808) (h0:0<u):wrap64 (IntKind.u64.wrap (-(u:Int)))= -(u:Int):=by
 rw [IntKind.wrap_u64];unfold wrap64;omega
theorem ztF (r:Nat) (s:ByteArray) (l:List UInt8) (p:Nat) (w:World) (h:RdL r s l p w):
  Calls Tryz.prog 176 #[.pointer (some ⟨r,0,none⟩)] w (ze3 r s p w (fun n:Int=>Value.int .i64 n) (zdO l)):=by
 generalize hQ:ze3 r s p w (fun n:Int=>Value.int .i64 n) (zdO l)=Q at *;have HQ:=zzH hQ;clear hQ;have HD:Hid (zdO l=(zH l).bind fun x=>(zH x.2).bind fun y=>if 4<=x.1/\x.1<=8/\y.1<=1 then(zcz x.1 y.2).bind fun z=>(zeu y.1 z.1).bind fun v=>some (v,z.2)else none):=zzH rfl;have HB:=zzH (zbI r s l p w h);go_in;rcases hx:zH l with _|⟨n,l1⟩
 ·exact zz82
 rw [hx]at HB HD;rw [zzq0]at HD;have hn:=zgR hx;go_wp2_with (go_at_call 173;refine HB.out.mono ?_;rintro e w1 ⟨rfl,hr,hg⟩);have HB1:=zzH (zbI r s l1 p _ hr);rcases hy:zH l1 with _|⟨m,l2⟩
 ·exact zz81
 rw [hy]at HB1 HD;rw [zzq0]at HD;have hm:=zgR hy;by_cases cc:4<=n/\n<=8/\m<=1
 case neg=>
  rw [if_neg cc]at HD;have HC:=zzH cc;by_cases c1:4<=n
  ·by_cases c2:n<=8
   ·have c3: ¬m<=1:=fun e=>HC.out ⟨c1,c2,e⟩
    have h1:(4:Int)<=(n:Int):=by omega
    have h2:(n:Int)<=8:=by omega
    have h3:decide ((m:Int)<=1)=false:=zzD (by omega);exact zz84
   ·have h1:(4:Int)<=(n:Int):=by omega
    have h2: ¬(n:Int)<=8:=by omega
    exact zz84
  ·have h1: ¬(4:Int)<=(n:Int):=by omega
   exact zz84
 rw [if_pos cc]at HD;obtain⟨c1,c2,c3⟩:=cc;have h1:(4:Int)<=(n:Int):=by omega
 have h2:(n:Int)<=8:=by omega
 have h3:decide ((m:Int)<=1)=true:=zzT (by omega);go_wp2_with (go_at_call 173;refine HB1.out.mono ?_;rintro e w2 ⟨rfl,hr2,hg2⟩);have HG:=zzH (zk hg hg2);have HB2:=zzH (zg5 r s l2 p n _ hr2 (by omega));clear hg hg2 hr h HB HB1;go_wp2_with (go_at_call 152;refine(zW _ _).mono ?_;rintro e w3 ⟨rfl,rfl⟩);rcases hz:zcz n l2 with _|⟨b,l3⟩
 ·rw [hz]at HB2 HD
  go_wp2_with (go_at_call 177;refine HB2.out.mono ?_;rintro e w3 ⟨rfl,hg3⟩);exact⟨rfl,by rw [<-HQ.out,HD.out];exact⟨rfl,zk HG.out hg3⟩⟩
 rw [hz]at HB2 HD;rw [zzq0]at HD;have hb:=zjJ hz;go_wp2_with (go_at_call 177;refine HB2.out.mono ?_;rintro e w3 ⟨rfl,hr3,hg3⟩);have hG:=zk HG.out hg3;have HG2:=zzH hG;clear hg3 hG HG HB2;have hidx:n-1<b.size:=by omega
 have hlast:b.data.toList.getD (b.size-1) 0=b[n-1]:=by
  rw [hb];simp only [List.getD,Array.getElem?_toList];rw [show b.data[n-1]?=some (b[n-1])from Array.getElem?_eq_getElem hidx];rfl
 have HL:=zzH hlast;clear hlast;by_cases c0:b[n-1]=0
 ·have hne:((b[n-1].toNat:Int)!=0)=false:=by rw [c0];rfl
  have HV:Hid (zeu m b=none):=zzH (if_pos (by rw [HL.out,c0]));rw [hne];go_wp2_with (go_at_call 152;refine(zco _ _).mono ?_;rintro e w4 ⟨rfl,rfl⟩);exact⟨rfl,by rw [<-HQ.out,HD.out,HV.out];exact⟨rfl,HG2.out⟩⟩
 have hne:((b[n-1].toNat:Int)!=0)=true:=by
  rw [bne_iff_ne];intro e;exact c0 (UInt8.toNat_inj.1 (by rw [show b[n-1].toNat=0 by omega];rfl))
 have HV:Hid (zeu m b=if m=1 then(if leV b.data.toList<=9223372036854775808/\2147483648<leV b.data.toList then some (-(leV b.data.toList:Int))else none)else if leV b.data.toList<9223372036854775808/\2147483648<=leV b.data.toList then some (leV b.data.toList:Int)else none):=zzH (if_neg (by rw [HL.out];exact c0));rw [HV.out]at HD;clear HV HL c0;rw [hne];go_wp2_with (go_at_call 152;refine(zW _ _).mono ?_;rintro e w4 ⟨rfl,rfl⟩);clear hne hidx;have hll:b.data.toList.length=n:=by rw [Array.length_toList];exact hb
 go_loop [6,7] (fun u i=> ∃k:Nat,k<=n/\i= .int .i64 ((k:Int)-1)/\u= .int .u64 (leV (b.data.toList.drop k))) (fun _ i=>(intOf i+1).toNat)
 case atStart=>exact⟨n,zzL _,rfl,by rw [List.drop_of_length_le (by omega)];rfl⟩
 case round=>
  obtain⟨k,hk,rfl,rfl⟩:=hrel
  cases k with
  |succ j=>
   have hj:j<b.size:=by omega
   have hjl:j<b.data.toList.length:=by omega
   have HU:Hid (leV (b.data.toList.drop j)=256*leV (b.data.toList.drop (j+1))+(b[j]).toNat):=zzH (zq1 hjl);have hu:=zuh (l:=b.data.toList) (j:=j+1) (n:=n) (by omega) (by omega);have hcl:=(b[j]).toNat_lt;have hi:((j+1:Nat):Int)-1=(j:Int):=by omega
   have HO:=zzH (zrm (leV (b.data.toList.drop (j+1))) (b[j]).toNat hu (by omega));generalize leV (b.data.toList.drop (j+1))=u at *;rw [hi];go_wp2;go_round
   case rel=>exact⟨j,by omega,by go_num,by rw [HO.out,HU.out]⟩
   case measure=>simp [intOf]
  |zero=>
   have hi:((0:Nat):Int)-1= -1:=rfl;rw [hi,List.drop_zero];have hU:=zlb b.data.toList;rw [hll]at hU;have hU2:leV b.data.toList<18446744073709551616:=zzW hU (Nat.pow_le_pow_right (n:=256) (by omega) (show n<=8 by omega));clear hU;generalize leV b.data.toList=U at *;by_cases cm:m=1
   ·subst cm
    rw [if_pos rfl]at HD;by_cases c8:U<=9223372036854775808/\2147483648<U
    ·rw [if_pos c8]at HD
     have h8:((U:Int)<=9223372036854775808):=by omega
     have h9:decide ((U:Int)>2147483648)=true:=zzT (by omega);have HN:=zzH (zum U c8.1 (by omega));clear c8 hU2;go_wp2_with (go_at_call 152;refine(zW _ _).mono ?_;rintro e w4 ⟨rfl,rfl⟩);rw [<-HQ.out,HD.out];exact⟨congrArg (fun z:Int=>Ending.returned (.int .i64 z)) HN.out,hr3,HG2.out⟩
    ·rw [if_neg c8]at HD
     by_cases h8:(U:Int)<=9223372036854775808
     ·have h9:decide ((U:Int)>2147483648)=false:=zzD (by omega)
      exact zz85
     ·exact zz85
   ·have hne:((m:Int)==1)=false:=zzB.2 (by omega)
    rw [if_neg cm]at HD;by_cases c8:U<9223372036854775808/\2147483648<=U
    ·rw [if_pos c8]at HD
     have h8:((U:Int)<9223372036854775808):=by omega
     have h9:decide ((U:Int)≥2147483648)=true:=zzT (by omega);clear c8 hU2;go_wp2_with (go_at_call 152;refine(zW _ _).mono ?_;rintro e w4 ⟨rfl,rfl⟩);rw [<-HQ.out,HD.out];exact⟨rfl,hr3,HG2.out⟩
    ·rw [if_neg c8]at HD
     by_cases h8:(U:Int)<9223372036854775808
     ·have h9:decide ((U:Int)≥2147483648)=false:=zzD (by omega)
      exact zz85
     ·exact zz85
def tmK (k:Int) (int gen:Int:=0) (name func:ByteArray:=⟨#[]⟩) (arity:Int:=0) (items:List Tm:=[]) (bytes:ByteArray:=⟨#[]⟩) (bits:Int:=0):Tm:=.mk k int gen name func arity items bytes bits
def zci (T:Nat->List UInt8->Option ((Tm × Nat) × List UInt8)):Nat->Nat->List UInt8->Option ((List Tm × Nat) × List UInt8)
 |0,p,l=>some (([],p),l)
 |n+1,p,l=>(T p l).bind fun x=>(zci T n x.1.2 x.2).bind fun y=>some ((x.1.1::y.1.1,y.1.2),y.2)
def zcc (T:Nat->List UInt8->Option ((Tm × Nat) × List UInt8)) (n p:Nat) (l:List UInt8):Option ((List Tm × Nat) × List UInt8):=if n<=2000 then zci T n p l else none
def ze7 (p:Nat) (l:List UInt8):Option ((Tm × Nat) × List UInt8):=
 (zck l).bind fun x=>(zck x.2).bind fun y=>(zH y.2).bind fun z=>if z.1=97 then(zH z.2).bind fun q=>some ((tmK 5 (name:=x.1) (func:=y.1) (arity:=q.1),p),q.2)else none
def zeA (T:Nat->List UInt8->Option ((Tm × Nat) × List UInt8)) (p:Nat) (l:List UInt8):Option ((Tm × Nat) × List UInt8):=
 (zH l).bind fun a=>(zbz 2 a.2).bind fun b=>(zH b.2).bind fun c=>(zck c.2).bind fun d=>(zbz 4 d.2).bind fun e=>(zcc T c.1 p e.2).bind fun q=>
  some ((tmK 4 (int:=b.1) (gen:=e.1) (name:=d.1) (arity:=a.1) (items:=q.1.1),q.1.2),q.2)
def zc0 (T:Nat->List UInt8->Option ((Tm × Nat) × List UInt8)) (p:Nat) (l:List UInt8):Option ((Tm × Nat) × List UInt8):=
 (zH l).bind fun x=>if x.1=113 then ze7 p x.2 else if x.1=112 then zeA T p x.2 else none
def zcg (n:Nat):Int:=if n<2147483648 then n else(n:Int)-4294967296
def zda (T:Nat->List UInt8->Option ((Tm × Nat) × List UInt8)) (p:Nat) (l0:List UInt8) (tag:Nat) (l:List UInt8):Option ((Tm × Nat) × List UInt8):=
 if tag=97 then(zH l).bind fun x=>some ((tmK 1 (int:=x.1),p),x.2)
 else if tag=98 then(zbz 4 l).bind fun x=>if zcg x.1<0\/255<zcg x.1 then some ((tmK 1 (int:=zcg x.1),p),x.2)else none
 else if tag=110 then(zdO l).bind fun x=>some ((tmK 1 (int:=x.1),p),x.2)
 else if tag=119 then(zH l).bind fun x=>(zcz x.1 x.2).bind fun y=>some ((tmK 2 (name:=y.1),p),y.2)
 else if tag=104 then(zH l).bind fun x=>(zcc T x.1 p x.2).bind fun y=>some ((tmK 7 (items:=y.1.1),y.1.2),y.2)
 else if tag=106 then some ((tmK 8,p),l)
 else if tag=108 then(zbz 4 l).bind fun x=>(zcc T (x.1+1) p x.2).bind fun y=>some ((tmK 9 (items:=y.1.1),y.1.2),y.2)
 else if tag=109 then(zbz 4 l).bind fun x=>(zcz x.1 x.2).bind fun y=>some ((tmK 10 (bytes:=y.1) (bits:=8*(y.1.size:Int)),p),y.2)
 else if tag=77 then(zbz 4 l).bind fun x=>(zH x.2).bind fun y=>if 0<x.1/\0<y.1/\y.1<8 then(zcz x.1 y.2).bind fun z=>some ((tmK 10 (bytes:=z.1) (bits:=8*((x.1:Int)-1)+y.1),p),z.2)else none
 else if tag=88 then(zck l).bind fun x=>(zbz 4 x.2).bind fun y=>(zbz 4 y.2).bind fun z=>if z.1=0 then(zbz 4 z.2).bind fun q=>some ((tmK 6 (int:=y.1) (gen:=q.1) (name:=x.1),p),q.2)else none
 else if tag=90 then(zbz 2 l).bind fun x=>if x.1=1 then(zck x.2).bind fun y=>(zbz 4 y.2).bind fun z=>(zbz 4 z.2).bind fun q=>some ((tmK 3 (int:=q.1) (gen:=z.1) (name:=y.1),p),q.2)else none
 else zc0 T p l0
def zy:Nat->Nat->List UInt8->Option ((Tm × Nat) × List UInt8)
 |0,_,_=>none
 |f+1,p,l=>if p+1<=2000 then(zH l).bind fun x=>zda (zy f) (p+1) l x.1 x.2 else none
theorem zi0: ∀(l:List UInt8) (n:Nat),l.foldl (fun n c=>256*n+c.toNat) n=n*256^l.length+beV l
 |[],n=>by simp [beV]
 |c::l,n=>by
  have h1:=zi0 l (256*n+c.toNat)
  have h2:beV (c::l)=c.toNat*256^l.length+beV l:=by
   exact zz86
  rw [List.foldl_cons,h1,h2,zzq18,Nat.pow_succ,Nat.add_mul,Nat.mul_comm 256 n,Nat.mul_assoc,Nat.mul_comm 256 (256^l.length),Nat.add_assoc]
theorem zqD (l:List UInt8) (n:Nat):l.foldl (fun n c=>256*n+c.toNat) n/256^l.length=n:=by
 rw [zi0,Nat.mul_comm,Nat.mul_add_div (Nat.pow_pos (by omega)),Nat.div_eq_of_lt (zkB l),Nat.add_zero]
theorem zmd: ∀(k:Nat) (l:List UInt8) (m:Nat),l.length=k->beN k ((l.foldl (fun n c=>256*n+c.toNat) m:Nat):Int)=l
 |0,[],m,_=>rfl
 |k+1,c::l,m,h=>by
  have hl:l.length=k:=by simpa using h
  have ih:=zmd k l (256*m+c.toNat) hl;show UInt8.ofNat _::beN k _=c::l;rw [List.foldl_cons,ih];congr 1;have hd:=zqD l (256*m+c.toNat);rw [hl]at hd
  have e:(2:Int)^(8*k)=((256^k:Nat):Int):=by
   rw [Int.natCast_pow,Int.pow_mul];rfl
  rw [e,<-Int.natCast_ediv,hd];have hc:=c.toNat_lt;have:(((256*m+c.toNat:Nat):Int)%256).toNat=c.toNat:=by omega
  rw [this];exact UInt8.ofNat_toNat
theorem zs7 {l:List UInt8} {k:Nat} (h:k<=l.length):beN k (beV (l.take k):Nat)++l.drop k=l:=by
 rw [show beV (l.take k)=(l.take k).foldl (fun n c=>256*n+c.toNat) 0 from rfl,zmd k _ 0 (by rw [List.length_take];omega),List.take_append_drop]
theorem zcH {k:Nat} {l l2:List UInt8} {n:Nat} (h:zbz k l=some (n,l2)):l=beN k n++l2/\n<256^k:=by
 unfold zbz at h;split at h
 ·next c=>
  simp only [zzX0]at h;refine⟨by rw [<-h.1,<-h.2];exact(zs7 c).symm,?_⟩;have:=zkB (l.take k);rw [List.length_take,Nat.min_eq_left c,h.1]at this;exact this
 ·exact zz83
theorem zb0 {l l2:List UInt8} {n:Nat} (h:zH l=some (n,l2)):l=UInt8.ofNat n::l2/\n<256:=by
 refine⟨?_,zgR h⟩
 cases l with
 |nil=>exact absurd h (by simp [zH])
 |cons c l=>simp only [zH,Option.some.injEq,Prod.mk.injEq]at h;rw [<-h.1,<-h.2,UInt8.ofNat_toNat]
theorem zez {k:Nat} {l l2:List UInt8} {b:ByteArray} (h:zcz k l=some (b,l2)):l=b.data.toList++l2/\b.size=k:=by
 refine⟨?_,zjJ h⟩;unfold zcz at h;split at h
 ·next c=>
  simp only [zzX0]at h;rw [<-h.1,<-h.2];show l=(l.take k).toArray.toList++l.drop k;rw [List.toList_toArray,List.take_append_drop]
 ·exact zz83
theorem zeI {l l2:List UInt8} {b:ByteArray} (h:zck l=some (b,l2)):l=zE b++l2/\b.size<256:=by
 unfold zck at h;obtain⟨x,hx,h⟩:=zzO.1 h;split at h
 ·next c=>
  obtain⟨y,hy,h⟩:=zzO.1 h;have e1:=zb0 (n:=x.1) (l2:=x.2) hx;have e2:=zb0 (n:=y.1) (l2:=y.2) hy;have e3:=zez h;refine⟨?_,by omega⟩;rw [e1.1,e2.1,e3.1,c,<-e3.2];rfl
 ·exact zz83
theorem zl5: ∀(l:List UInt8),l.getD (l.length-1) 0≠0->0<leV l
 |[],h=>absurd rfl h
 |[c],h=>by
  have h:c≠0:=h;have:c.toNat≠0:=fun e=>h (UInt8.toNat_inj.1 e)
  show 0<256*leV []+c.toNat;omega
 |c::d::l,h=>by
  have:=zl5 (d::l) h;show 0<256*leV (d::l)+c.toNat;omega
theorem zme: ∀(f:Nat) (l:List UInt8),l.length<=f->l.getD (l.length-1) 0≠0->leN f (leV l)=l
 |0,[],_,h=>absurd rfl h
 |f+1,[],_,h=>absurd rfl h
 |f+1,c::l,hl,h=>by
  have hp:=zl5 (c::l) h;have hc:=c.toNat_lt;unfold leN;rw [if_neg (by omega)];have e1:leV (c::l)/256=leV l:=by show(256*leV l+c.toNat)/256=leV l;omega
  have e2:UInt8.ofNat (leV (c::l))=c:=by
   apply UInt8.toNat_inj.1;rw [UInt8.toNat_ofNat'];show(256*leV l+c.toNat)%256=c.toNat;omega
  rw [e1,e2];congr 1
  cases l with
  |nil=>cases f<;>rfl
  |cons d l=>exact zme f (d::l) (by simpa using hl) h
theorem zmU {m:Nat} {b:ByteArray} {n:Int} (h:zeu m b=some n) (h8:b.size<=8) (hm:m<=1):zbJ n=110::UInt8.ofNat b.size::UInt8.ofNat m::b.data.toList:=by
 unfold zeu at h;split at h
 ·exact zz83
 next hl=>
 have hL:leN 8 (leV b.data.toList)=b.data.toList:=zme 8 _ h8 hl;have hz:b.data.toList.length=b.size:=rfl;generalize leV b.data.toList=u at *;split at h
 ·next c=>
  split at h
  ·next c2=>
   simp only [Option.some.injEq]at h;subst c;have e:n.natAbs=u:=by omega
   unfold zbJ zgU;rw [if_neg (by omega),if_neg (by omega),e,hL,hz,if_pos (show n<0 by omega)];rfl
  ·exact zz83
 ·next c=>
  split at h
  ·next c2=>
   simp only [Option.some.injEq]at h;have hm0:m=0:=by omega
   subst hm0;have e:n.natAbs=u:=by omega
   unfold zbJ zgU;rw [if_neg (by omega),if_neg (by omega),e,hL,hz,if_neg (show¬n<0 by omega)];rfl
  ·exact zz83
theorem znb {l l2:List UInt8} {n:Int} (h:zdO l=some (n,l2)):110::l=zbJ n++l2:=by
 unfold zdO at h;obtain⟨x,hx,h⟩:=zzO.1 h;obtain⟨y,hy,h⟩:=zzO.1 h;split at h
 ·next c=>
  obtain⟨z,hz,h⟩:=zzO.1 h;obtain⟨v,hv,h⟩:=zzO.1 h;simp only [zzX0]at h;have e1:=zb0 (n:=x.1) (l2:=x.2) hx;have e2:=zb0 (n:=y.1) (l2:=y.2) hy;have e3:=zez (b:=z.1) (l2:=z.2) hz;have e4:=zmU hv (by omega) c.2.2;rw [<-h.1,<-h.2,e4,e1.1,e2.1,e3.1,e3.2];rfl
 ·exact zz83
theorem zng:(Rows.laid_stagehand_code_rows:DataW Unit)= .agg (rowT.map fun r=>.agg ([r.1,r.2.1,r.2.2].map fun z=>.lit (.int .i64 z))):=rfl
theorem rowsName:Tryz.prog.globalNamed "stagehand/code.rows" =some 0:=by kernel_rfl
theorem rowsType:(Tryz.prog.globals[0]?).map (·.type)=some 180:=by kernel_rfl
theorem zlc:Tryz.prog.cellsOf 131=3:=by kernel_rfl
theorem zt9:Tryz.prog.cellsOf 3=1:=by kernel_rfl
theorem zjU {W:World} (h:Lib.VarReads Tryz.prog W "stagehand/code.rows" Rows.laid_stagehand_code_rows):RowsAt W:=by
 obtain⟨g,t,cs,fuel,p,hg,ht,hv,hd⟩:=h;obtain rfl:=zzf (rowsName.symm.trans hg);obtain rfl:=zzf (rowsType.symm.trans ht);rw [zng]at hd
 have hlt:0<W.heap.size:=by
  unfold World.var? at hv;rw [hg]at hv;simp only [zzq0]at hv;split at hv
  ·rename_i h;exact(Array.getElem?_eq_some_iff.1 h).1
  ·cases hv
 refine⟨hlt,fun k hk=>?_⟩;obtain⟨f',d,q,h1,h2⟩:=Lib.array_elem Tryz.underlying180 hd k hk;rw [List.getElem?_map,zzq11 (by exact hk)]at h1;obtain rfl:=zzf h1
 have h3:=Lib.ints_of_struct Tryz.underlying131 (fun i f hf=>by
  have hi:=(Array.getElem?_eq_some_iff.1 hf).1;have hi:i<3:=hi;rcases(show i=0\/i=1\/i=2 by omega)with rfl|rfl|rfl
  all_goals
   obtain rfl:=zzf hf;exact⟨Tryz.underlying3,rfl,zt9⟩) zlc h2
 rw [zlc]at h3
 have hc: ∀i,i<3->cs[k*3+i]?=([(rowT[k]'hk).1,(rowT[k]'hk).2.1,(rowT[k]'hk).2.2].map fun z=>Value.int .i64 z)[i]?:=fun i hi=>by
  have h4:((cs.toList.drop (k*3)).take 3)[i]?=([(rowT[k]'hk).1,(rowT[k]'hk).2.1,(rowT[k]'hk).2.2].map fun z=>Value.int .i64 z)[i]?:=congrArg (fun l=>l[i]?) h3
  rw [List.getElem?_take_of_lt hi,List.getElem?_drop,Array.getElem?_toList]at h4;exact h4
 have hcell:=World.var?_cell hg hv;exact⟨(hcell (k*3)).trans (hc 0 (by decide)),(hcell (k*3+1)).trans (hc 1 (by decide)),(hcell (k*3+2)).trans (hc 2 (by decide))⟩
theorem zpI:Tryz.prog.globalNamed "strings.asciiSpace" =some 3:=by kernel_rfl
theorem zpZ:(Tryz.prog.globals[3]?).map (·.type)=some 236:=by kernel_rfl
theorem znf:Tryz.prog.cellsOf 5=1:=by kernel_rfl
theorem zlA:Tryz.prog.cellsOf 236=256:=by kernel_rfl
theorem zlt:(Rows.laid_strings_asciiSpace:DataW Unit)=Lib.tabData .u8 Lib.asciiSpaceTab:=by kernel_rfl
theorem ztE {W:World} {l:List (String × DataW Unit)} (h:laidMet Tryz.prog l W) (hm:("stagehand/code.rows",Rows.laid_stagehand_code_rows)∈l):RowsAt W:=zjU (Lib.laidMet.reads h hm)
theorem zrb {W:World} {a:String × DataW Unit} {rest:List (String × DataW Unit)} (h:laidMet Tryz.prog (a::("strings.asciiSpace",Rows.laid_strings_asciiSpace)::rest) W):SpaceAt W:=by
 rw [zlt]at h;exact Lib.tabIs_of_head zpI zpZ Tryz.underlying236 Tryz.underlying5 znf zlA h.tail
noncomputable def laidWorld (os:Os):World:=
 let N:=(World.settled Tryz.prog os).heap.size
 let w0:=World.holding Tryz.prog os ⟨#[.cells (Lib.whiteT.map fun(z:Nat)=>Value.int .u16 (z:Int)).toArray 266,.cells #[.slice (some ⟨N,0,none⟩) 7 7,.slice none 0 0,.int .i64 2] 263],#[],[]⟩
 let put (h:Array Obj) (g:Nat) (cs:Array Value):Array Obj:=h.modify g fun
  |.cells _ t frozen=>.cells cs t frozen
  |o=>o
 let h1:=put w0.heap 3 (Lib.asciiSpaceTab.map fun z=>Value.int .u8 z).toArray
 let h2:=put h1 5 #[.pointer (some ⟨N+1,0,none⟩)]
 let h3:=put h2 0 (rowT.flatMap fun r=>[Value.int .i64 r.1,Value.int .i64 r.2.1,Value.int .i64 r.2.2]).toArray
 {w0 with heap:=h3}
end Go.Proofs.YtijekmeocadkeaaGreatDoor
