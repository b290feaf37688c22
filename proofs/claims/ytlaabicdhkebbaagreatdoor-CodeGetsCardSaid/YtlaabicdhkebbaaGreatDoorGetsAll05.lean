/- part 5 -/
import Derived.Test.YtlaabicdhkebbaaGreatDoorGetsAll02
import Derived.Test.YtlaabicdhkebbaaGreatDoorGetsAll03
import Derived.Test.YtlaabicdhkebbaaGreatDoorGetsAll04
namespace Go.Proofs.YtlaabicdhkebbaaGreatDoor
open Go.RowKit
set_option linter.unusedVariables false
set_option linter.unusedSimpArgs false
set_option maxRecDepth 100000
set_option maxHeartbeats 80000000
def zbu (x:RIns):Bool:=
 if x.op=13 then((x.name.toList== [123,125])||((x.name.toList== [124])&&((x.src.length:Int)==2)))||((!(x.name.toList== [43,43])&&zT x.name x.src.length)||(zbJ x.name x.src.length==1))
 else if x.op=14 then(zT x.name x.src.length||(zbJ x.name x.src.length==1))||(zbJ x.name x.src.length==2)
 else if x.op=15 then((x.name.toList== [33])&&(x.n==2))||(zbJ x.name x.n==3)
 else true
theorem zqf (b o:Nat) (x:RIns) (so co go:Option Addr) (sc cc gc:Nat) (w:World) (hsp:SpaceAt w) (hx:IBox w b o x so co go sc cc gc) (hs:x.name.size<=140737488355328) (hop:x.op=13):
  Calls Tryz.prog 43 #[.pointer (some ⟨b,o,none⟩)] w fun e w'=>e= .returned (.bool (zbu x))/\Below w.heap.size w w':=by
 have c0:=hx.c0;have c3:=hx.c3;have c5:=hx.c5;have c7:=hx.c7;have r2:=hx.rsrc;have hlt:=hx.lt;have hrn:=hx.rn;have hn1:I64 (x.src.length:Int):=by unfold I64;omega
 have E0:Hid (zbu x=(((x.name.toList== [123,125])||((x.name.toList== [124])&&((x.src.length:Int)==2)))||((!(x.name.toList== [43,43])&&zT x.name x.src.length)||(zbJ x.name x.src.length==1)))):=zzH (by unfold zbu;rw [if_pos hop]);rw [hop]at c0;have hO:=fun wx=>zgY x.name x.src.length wx
 have hCl:=zgR x.name x.src.length w hsp hs hn1;clear hop hx hsp;generalize zbu x=r at *;generalize zT x.name x.src.length=ob at *;generalize zbJ x.name x.src.length=cl at *;generalize x.name=nm at *;generalize x.src.length=ln at *
 cases t1:(nm.toList== [123,125])with
 |true=>
  simp only [t1]at E0;exact zz43
 |false=>
  simp only [t1]at E0
  cases t2:(nm.toList== [124])with
  |true=>
   simp only [t2]at E0
   cases q2:((ln:Int)==2)with
   |true=>
    simp only [q2]at E0;exact zz43
   |false=>
    simp only [q2]at E0;exact zz42
  |false=>
   simp only [t2]at E0;exact zz42
theorem zpm (b o:Nat) (x:RIns) (so co go:Option Addr) (sc cc gc:Nat) (w:World) (hsp:SpaceAt w) (hx:IBox w b o x so co go sc cc gc) (hs:x.name.size<=140737488355328) (hop:x.op=14):
  Calls Tryz.prog 43 #[.pointer (some ⟨b,o,none⟩)] w fun e w'=>e= .returned (.bool (zbu x))/\Below w.heap.size w w':=by
 have c0:=hx.c0;have c3:=hx.c3;have c5:=hx.c5;have c7:=hx.c7;have r2:=hx.rsrc;have hlt:=hx.lt;have hrn:=hx.rn;have hn1:I64 (x.src.length:Int):=by unfold I64;omega
 have E0:Hid (zbu x=((zT x.name x.src.length||(zbJ x.name x.src.length==1))||(zbJ x.name x.src.length==2))):=zzH (by unfold zbu;rw [if_neg (by omega),if_pos hop]);rw [hop]at c0;have hO:=fun wx=>zgY x.name x.src.length wx
 have hCl:=zgR x.name x.src.length w hsp hs hn1;clear hop hsp;have HX:=zzH hx;clear hx;generalize zbu x=r at *;generalize zT x.name x.src.length=ob at *;generalize zbJ x.name x.src.length=cl at *;generalize x.src.length=ln at *
 cases ob with
 |true=>
  exact zz45
 |false=>
  cases q1:(cl==1)with
  |true=>
   simp only [q1]at E0;exact zz45
  |false=>
   simp only [q1]at E0
   cases q2:(cl==2)with
   |true=>
    exact zz44
   |false=>
    exact zz44
theorem zpN (b o:Nat) (x:RIns) (so co go:Option Addr) (sc cc gc:Nat) (w:World) (hsp:SpaceAt w) (hx:IBox w b o x so co go sc cc gc) (hs:x.name.size<=140737488355328) (hop:x.op=15):
  Calls Tryz.prog 43 #[.pointer (some ⟨b,o,none⟩)] w fun e w'=>e= .returned (.bool (zbu x))/\Below w.heap.size w w':=by
 have c0:=hx.c0;have c3:=hx.c3;have c5:=hx.c5;have c7:=hx.c7;have r2:=hx.rsrc;have hlt:=hx.lt;have hrn:=hx.rn;have hn1:I64 (x.src.length:Int):=by unfold I64;omega
 have E0:Hid (zbu x=(((x.name.toList== [33])&&(x.n==2))||(zbJ x.name x.n==3))):=zzH (by unfold zbu;rw [if_neg (by omega),if_neg (by omega),if_pos hop]);rw [hop]at c0;have hCl: ∀wx,Below w.heap.size w wx->Calls Tryz.prog 68 #[.string x.name,.int .i64 x.n] wx fun e w'=>e= .returned (.int .i64 (zbJ x.name x.n))/\Below w.heap.size w w':=fun wx hb=>(zgR x.name x.n wx (hsp.below hb) hs hrn).mono fun _ _ ⟨h1,h2⟩=>⟨h1,ze hb h2⟩
 have hdr:Below w.heap.size w w.drew:=(zzR _ _).drew;have HDR:=zzH hdr;clear hdr;clear hop hsp hx;generalize zbu x=r at *;generalize zbJ x.name x.n=cl at *;generalize x.name=nm at *;generalize x.n=ln at *
 cases t1:(nm.toList== [33])with
 |true=>
  simp only [t1]at E0
  cases q2:(ln==2)with
  |true=>
   simp only [q2]at E0;simp only [Bool.true_or,Bool.or_true,Bool.false_or,Bool.or_false,Bool.and_true,Bool.and_false,Bool.true_and,Bool.false_and]at E0;go_in;go_wp2_with fail;go_quiet (fail);go_wp2_with fail;go_ret;exact⟨zr E0.out.symm,zY (zzR _ _) _⟩
  |false=>
   simp only [q2]at E0
   cases q3:(cl==3)with
   |true=>
    exact zz46
   |false=>
    exact zz46
 |false=>
  simp only [t1]at E0;simp only [Bool.true_or,Bool.or_true,Bool.false_or,Bool.or_false,Bool.and_true,Bool.and_false,Bool.true_and,Bool.false_and]at E0;go_in;go_wp2_with fail;have HCL:=zzH hCl;clear hCl c0 c3 r2 hrn hn1;refine wp_region_held_drew (S:=fun w'=>w'.cell? ⟨b,o+7,none⟩=some (.string nm)/\w'.cell? ⟨b,o+5,none⟩=some (.int .i64 ln)) (by kernel_rfl) ⟨by simpa using c7,by simpa using c5⟩ (fun hHeld=>?_);refine wpAnyH_take (i:=0) (v:=?v0) rfl (by kernel_rfl) (by kernel_rfl) (by kernel_rfl) (fun _ _ _ h=>h) (Or.inl ⟨by rfl,?y0⟩) hHeld ?_
  case y0=>(intro w hSw;(try dsimp only at hSw);go_simp;try with_reducible rfl)
  simp only [zzX0];refine wpAnyH_take (i:=1) (v:=?v1) rfl (by kernel_rfl) (by kernel_rfl) (by kernel_rfl) (fun _ _ _ h=>h) (Or.inl ⟨by rfl,?y1⟩) hHeld ?_
  case y1=>(intro w hSw;(try dsimp only at hSw);go_simp;try with_reducible rfl)
  simp only [zzX0];refine wpAnyH_take (i:=2) (v:=?v2) rfl (by kernel_rfl) (by kernel_rfl) (by kernel_rfl) (fun _ _ _ h=>h) (Or.inl ⟨by rfl,?y2⟩) hHeld ?_
  case y2=>(intro w hSw;(try dsimp only at hSw);go_simp;try with_reducible rfl)
  simp only [zzX0];refine wpAnyH_take (i:=3) (v:=?v3) rfl (by kernel_rfl) (by kernel_rfl) (by kernel_rfl) (fun _ _ _ h=>h) (Or.inl ⟨by rfl,?y3⟩) hHeld ?_
  case y3=>(intro w hSw;(try dsimp only at hSw);go_simp;try with_reducible rfl)
  simp only [zzX0];refine wpAnyH_take (i:=4) (v:=?v4) rfl (by kernel_rfl) (by kernel_rfl) (by kernel_rfl) (fun _ _ _ h=>h) (Or.inl ⟨by rfl,?y4⟩) hHeld ?_
  case y4=>(intro w hSw;(try dsimp only at hSw);go_simp;try with_reducible rfl)
  simp only [zzX0];refine wpAnyH_take (i:=5) (v:=?v5) rfl (by kernel_rfl) (by kernel_rfl) (by kernel_rfl) (fun _ _ _ h=>h) (Or.inl ⟨by rfl,?y5⟩) hHeld ?_
  case y5=>(intro w hSw;(try dsimp only at hSw);go_simp;try with_reducible rfl)
  simp only [zzX0];refine wpAnyH_take (i:=6) (v:=undef) rfl (by kernel_rfl) (by kernel_rfl) (by kernel_rfl) (fun _ _ _ h=>h) (Or.inr ⟨by kernel_rfl,rfl⟩) hHeld ?_;simp only [zzX0];refine wpAnyH_take (i:=7) (v:=undef) rfl (by kernel_rfl) (by kernel_rfl) (by kernel_rfl) (fun _ _ _ h=>h) (Or.inr ⟨by kernel_rfl,rfl⟩) hHeld ?_;simp only [zzX0];refine wpAnyH_take (i:=8) (v:=undef) rfl (by kernel_rfl) (by kernel_rfl) (by kernel_rfl) (fun _ _ _ h=>h) (Or.inr ⟨by kernel_rfl,rfl⟩) hHeld ?_;simp only [zzX0];refine wpAnyH_take (i:=9) (v:=undef) rfl (by kernel_rfl) (by kernel_rfl) (by kernel_rfl) (fun _ _ _ h=>h) (Or.inr ⟨by kernel_rfl,rfl⟩) hHeld ?_;simp only [zzX0];refine wpAnyH_take (i:=10) (v:=undef) rfl (by kernel_rfl) (by kernel_rfl) (by kernel_rfl) (fun _ _ _ h=>h) (Or.inr ⟨by kernel_rfl,rfl⟩) hHeld ?_;simp only [zzX0];refine wpAnyH_take (i:=11) (v:=?v11) rfl (by kernel_rfl) (by kernel_rfl) (by kernel_rfl) (fun _ _ _ h=>h) (Or.inl ⟨by rfl,?y11⟩) hHeld ?_
  case y11=>(intro w hSw;(try dsimp only at hSw);go_simp;try with_reducible rfl)
  simp only [zzX0];refine wpAnyH_take (i:=12) (v:=?v12) rfl (by kernel_rfl) (by kernel_rfl) (by kernel_rfl) (fun _ _ _ h=>h) (Or.inl ⟨by rfl,?y12⟩) hHeld ?_
  case y12=>(intro w hSw;(try dsimp only at hSw);go_simp;try with_reducible rfl)
  simp only [zzX0];refine wpAnyH_take (i:=13) (v:=?v13) rfl (by kernel_rfl) (by kernel_rfl) (by kernel_rfl) (fun _ _ _ h=>h) (Or.inl ⟨by rfl,?y13⟩) hHeld ?_
  case y13=>(intro w hSw;(try dsimp only at hSw);go_simp;try with_reducible rfl)
  simp only [zzX0];refine wpAnyH_take (i:=14) (v:=?v14) rfl (by kernel_rfl) (by kernel_rfl) (by kernel_rfl) (fun _ _ _ h=>h) (Or.inl ⟨by rfl,?y14⟩) hHeld ?_
  case y14=>(intro w hSw;(try dsimp only at hSw);go_simp;try with_reducible rfl)
  simp only [zzX0];refine wpAnyH_take (i:=15) (v:=?v15) rfl (by kernel_rfl) (by kernel_rfl) (by kernel_rfl) (fun _ _ _ h=>h) (Or.inl ⟨by rfl,?y15⟩) hHeld ?_
  case y15=>(intro w hSw;(try dsimp only at hSw);go_simp;try with_reducible rfl)
  simp only [zzX0];refine wpAnyH_take (i:=16) (v:=?v16) rfl (by kernel_rfl) (by kernel_rfl) (by kernel_rfl) (fun _ _ _ h=>h) (Or.inl ⟨by rfl,?y16⟩) hHeld ?_
  case y16=>(intro w hSw;(try dsimp only at hSw);go_simp;try with_reducible rfl)
  simp only [zzX0];refine wpAnyH_take (i:=17) (v:=?v17) rfl (by kernel_rfl) (by kernel_rfl) (by kernel_rfl) (fun _ _ _ h=>h) (Or.inl ⟨by rfl,?y17⟩) hHeld ?_
  case y17=>(intro w hSw;(try dsimp only at hSw);go_simp;try with_reducible rfl)
  simp only [zzX0];refine wpAnyH_take (i:=18) (v:=?v18) rfl (by kernel_rfl) (by kernel_rfl) (by kernel_rfl) (fun _ _ _ h=>h) (Or.inl ⟨by rfl,?y18⟩) hHeld ?_
  case y18=>(intro w hSw;(try dsimp only at hSw);go_simp;try with_reducible rfl)
  simp only [zzX0];refine wpAnyH_take (i:=19) (v:=?v19) rfl (by kernel_rfl) (by kernel_rfl) (by kernel_rfl) (fun _ _ _ h=>h) (Or.inl ⟨by rfl,?y19⟩) hHeld ?_
  case y19=>(intro w hSw;(try dsimp only at hSw);go_simp;try with_reducible rfl)
  simp only [zzX0];refine wpAnyH_take (i:=20) (v:=?v20) rfl (by kernel_rfl) (by kernel_rfl) (by kernel_rfl) (fun _ _ _ h=>h) (Or.inl ⟨by rfl,?y20⟩) hHeld ?_
  case y20=>(intro w hSw;(try dsimp only at hSw);go_simp;try with_reducible rfl)
  simp only [zzX0];refine wpAnyH_ready (rs:=[21]) (by kernel_rfl) (by simp) ?_;refine AllReadyH.cons rfl (fun K hK=>?_) AllReadyH.nil;simp only [zzX6];go_simp;refine(HCL.out _ HDR.out).mono ?_;rintro e w5 ⟨rfl,hb5⟩;go_wp2_with fail;refine hK.out _ _ ⟨(hb5.cell (p:=⟨b,o+7,none⟩) hlt).trans c7,(hb5.cell (p:=⟨b,o+5,none⟩) hlt).trans c5⟩ (fun hHeld2=>?_);clear hK K hHeld
  try simp only [zzX0]
  refine wpAnyH_take (i:=22) (v:=?v22) rfl (by kernel_rfl) (by kernel_rfl) (by kernel_rfl) (fun _ _ _ h=>h) (Or.inl ⟨by rfl,?y22⟩) hHeld2 ?_
  case y22=>(intro w hSw;(try dsimp only at hSw);go_simp;try with_reducible rfl)
  simp only [zzX0];refine wpAnyH_take (i:=23) (v:=?v23) rfl (by kernel_rfl) (by kernel_rfl) (by kernel_rfl) (fun _ _ _ h=>h) (Or.inl ⟨by rfl,?y23⟩) hHeld2 ?_
  case y23=>(intro w hSw;(try dsimp only at hSw);go_simp;try with_reducible rfl)
  simp only [zzX0];refine wpAnyH_take (i:=24) (v:=?v24) rfl (by kernel_rfl) (by kernel_rfl) (by kernel_rfl) (fun _ _ _ h=>h) (Or.inl ⟨by rfl,?y24⟩) hHeld2 ?_
  case y24=>(intro w hSw;(try dsimp only at hSw);go_simp;try with_reducible rfl)
  simp only [zzX0];refine wpAnyH_done (by kernel_rfl) ?_ _;go_wp2_with fail;go_ret;exact⟨zr E0.out.symm,hb5⟩
theorem zml (b o:Nat) (x:RIns) (so co go:Option Addr) (sc cc gc:Nat) (w:World) (hsp:SpaceAt w) (hx:IBox w b o x so co go sc cc gc) (hs:x.name.size<=140737488355328) (h13: ¬x.op=13) (h14: ¬x.op=14) (h15: ¬x.op=15):
  Calls Tryz.prog 43 #[.pointer (some ⟨b,o,none⟩)] w fun e w'=>e= .returned (.bool (zbu x))/\Below w.heap.size w w':=by
 have c0:=hx.c0;have c3:=hx.c3;have c5:=hx.c5;have c7:=hx.c7;have r2:=hx.rsrc;have hlt:=hx.lt;have hrn:=hx.rn;have hn1:I64 (x.src.length:Int):=by unfold I64;omega
 have E0:Hid (zbu x=true):=zzH (by unfold zbu;rw [if_neg h13,if_neg h14,if_neg h15]);have t13:(x.op==13)=false:=zzB.2 h13;have t14:(x.op==14)=false:=zzB.2 h14;have t15:(x.op==15)=false:=zzB.2 h15;clear h13 h14 h15 hx hsp;go_in;go_wp2_with fail;go_ret;exact⟨zr E0.out.symm,zzR _ _⟩
theorem znq (b o:Nat) (x:RIns) (so co go:Option Addr) (sc cc gc:Nat) (w:World) (hsp:SpaceAt w) (hx:IBox w b o x so co go sc cc gc) (hs:x.name.size<=140737488355328):
  Calls Tryz.prog 43 #[.pointer (some ⟨b,o,none⟩)] w fun e w'=>e= .returned (.bool (zbu x))/\Below w.heap.size w w':=by
 by_cases h13:x.op=13
 ·exact zqf b o x so co go sc cc gc w hsp hx hs h13
 by_cases h14:x.op=14
 ·exact zpm b o x so co go sc cc gc w hsp hx hs h14
 by_cases h15:x.op=15
 ·exact zpN b o x so co go sc cc gc w hsp hx hs h15
 exact zml b o x so co go sc cc gc w hsp hx hs h13 h14 h15
def zc5 (op:Int):Bool:=decide (1<=op/\op<=40)
def zw (op:Int):Int × Int × Int:=(rowT[op.toNat]?).getD (0,0,0)
def zeT (u:RUnit) (i:Nat) (x:RIns):Bool:=
 zc5 x.op&&(zbd u.lits.length x (zw x.op).1.toNat (zw x.op).2.1.toNat (zw x.op).2.2.toNat&&(zl u.funcs.length u.funs x&&(zbu x&&(zby u.lits x&&zb2 u.code i x (zw x.op).1.toNat))))
def zbw (u:RUnit):List RIns->Nat->Option Nat
 |[],_=>none
 |x::l,i=>if zeT u i x=true then zbw u l (i+1)else some i
def zco (f:Nat) (u:RUnit):Int:=if zba f u=true then(match zbw u u.code 0 with|some i=>(i:Int)|none=>0)else -1
def zbt (f:Nat) (u:RUnit):Int:=if zba f u=true then(match zbw u u.code 0 with|some _=>6|none=>0)else 6
theorem zjH (u:RUnit) {l:List RIns} {k:Nat} (h:k<l.length):zbw u (l.drop k) k=if zeT u k l[k]=true then zbw u (l.drop (k+1)) (k+1)else some k:=by
 rw [List.drop_eq_getElem_cons h,zbw]
theorem zhI: ∀k,(h:k<41)->0<=(rowT[k]'h).1/\(rowT[k]'h).1<1000/\0<=(rowT[k]'h).2.1/\(rowT[k]'h).2.1<1000/\0<=(rowT[k]'h).2.2/\(rowT[k]'h).2.2<1000:=by decide
theorem zhB {op:Int} (h:1<=op/\op<=40) (w:World) (hr:RowsAt w):
  Calls Tryz.prog 33 #[.int .i64 op] w fun e w'=>e= .returned (.tuple #[.agg #[.int .i64 ((zw op).1.toNat:Nat),.int .i64 ((zw op).2.1.toNat:Nat),.int .i64 ((zw op).2.2.toNat:Nat)],.bool true])/\Below w.heap.size w w':=by
 obtain⟨k,rfl⟩: ∃k:Nat,op=(k:Int):=⟨op.toNat,by omega⟩;have hk:k<41:=by omega
 have h1:=znM k (by omega) hk w hr;obtain⟨a,b,c,d,e,g⟩:=zhI k hk;have hra:zw (k:Int)=rowT[k]'hk:=by unfold zw;rw [zzq11,zzq8 (by exact hk)];rfl
 rw [hra,Int.toNat_of_nonneg a,Int.toNat_of_nonneg c,Int.toNat_of_nonneg e];exact h1
theorem zgI {op:Int}:(zw op).1.toNat<1000/\(zw op).2.1.toNat<1000/\(zw op).2.2.toNat<1000:=by
 unfold zw;by_cases h:op.toNat<41
 ·obtain⟨a,b,c,d,e,g⟩:=zhI op.toNat h
  rw [zzq8 (by exact h)];simp only [Option.getD_some];omega
 ·rw [List.getElem?_eq_none (by exact Nat.le_of_not_lt h)]
  simp
theorem zc6 {k k':IntKind} {a b c d:Int} (h:a=b) (h':c=d):Ending.returned (.tuple #[.int k a,.int k' c])= .returned (.tuple #[.int k b,.int k' d]):=by rw [h,h']
theorem zgJ {f:Nat} {u:RUnit} (h:zba f u=true): ∀t∈u.lits,zD f t=true:=by
 unfold zba at h;rw [Bool.and_eq_true,Bool.and_eq_true]at h;exact List.all_eq_true.1 h.2.1
theorem ziS (f:Nat) (u:RUnit) (lo fo go co:Option Addr) (lc fc gc cc:Nat) (w:World) (hrows:RowsAt w) (hsp:SpaceAt w) (hp:UP w u lo fo go co) (hlits:SlAt w 9 (TmAt w (f+1)) lo u.lits) (hcap: ∀t∈u.lits,(zR (f+1) t:Int)<=1152921504606846976) (hnm: ∀x∈u.code,x.name.size<=140737488355328):
  Calls Tryz.prog 21 #[.agg (zzu u lo lc fo fc go gc co cc)] w fun e w'=>e= .returned (.tuple #[.int .i64 (zco (f+1) u),.int .i64 (zbt (f+1) u)])/\Below w.heap.size w w':=by
 unfold zzu;have HP:=zzH hp;have HRW:=zzH hrows;have HSP:=zzH hsp;have HLI:=zzH hlits;have HCAP:=zzH hcap;have HNM:=zzH hnm;clear hrows hsp hp hlits hcap hnm;have hbx:=zdQ w u lo fo go co lc fc gc cc;have hba:Below w.heap.size w (w.alloc (.cells (zzu u lo lc fo fc go gc co cc) 28)):=(zzR _ _).alloc (zzL _) _;have hT:=zmf f w.heap.size u lo fo go co lc fc gc cc _ hbx (HP.out.below hba) (HLI.out.tms hba) HCAP.out;have HBX:=zzH hbx;have HBA:=zzH hba;have EI:Hid (zco (f+1) u=if zba (f+1) u=true then(match zbw u u.code 0 with|some i=>(i:Int)|none=>0)else -1):=zzH rfl;have EE:Hid (zbt (f+1) u=if zba (f+1) u=true then(match zbw u u.code 0 with|some _=>6|none=>0)else 6):=zzH rfl;clear hbx hba
 cases htb:zba (f+1) u with
 |false=>
  rw [htb]at hT EI EE;rw [if_neg (by decide)]at EI EE;clear htb;go_in;go_wp2_with fail;refine hT.mono ?_;rintro e w5 ⟨rfl,hb5⟩;go_wp2_with fail;go_ret2;exact⟨zc6 EI.out.symm EE.out.symm,ze HBA.out hb5⟩
 |true=>
  rw [htb]at hT EI EE;rw [if_pos rfl]at EI EE;have HLV:=zzH (zgJ htb);have HI:Hid (zbw u u.code 0=zbw u (u.code.drop 0) 0):=zzH rfl;clear htb;have hcl:=HP.out.codeLen;go_in;go_wp2_with fail;refine hT.mono ?_;rintro e w5 ⟨rfl,hb5⟩;have HB5:=zzH (ze HBA.out hb5);have HU5:=zzH (HBX.out.below hb5);have d5:=HU5.out.c5;have hsz:w.heap.size<=w5.heap.size:=HB5.out.size;clear hb5 hT HBX HBA;generalize hBe:w.heap.size=B at *;have HBE:=zzH hBe;clear hBe;go_wp2_with fail;go_loopw [13] (fun i wr=> ∃k:Nat,k<=u.code.length/\i= .int .i64 k/\Hid (zbw u u.code 0=zbw u (u.code.drop k) k)/\Below w5.heap.size w5 wr) (fun i _=>u.code.length-(intOf i).toNat)
  case atStart=>exact⟨0,zzZ _,rfl,HI,zzR _ _⟩
  case round=>
   obtain⟨k,hk,rfl,HK,hBw⟩:=hrel;rename World=>wr
   by_cases hlt:k<u.code.length
   ·have HFW:Hid (Below w.heap.size w wr):=zzH (by rw [HBE.out];exact HB5.out.trans (hBw.mono hsz))
    obtain⟨bc,oc,so,co',go',sc,cc',gc',hco,hxb⟩:=ze4 (HP.out.below HFW.out).code hlt;subst hco;have HST:=zzH (zjH u hlt);have hui:=HU5.out.below hBw;have e5:=hui.c5;have c0:=hxb.c0;have hbl:=hxb.lt;have hBl:=hui.lt;have hll:=HP.out.litsLen;have hrl:= @zgI u.code[k].op;have HINS:Hid (zeT u k u.code[k]=(zc5 u.code[k].op&&(zbd u.lits.length u.code[k] (zw u.code[k].op).1.toNat (zw u.code[k].op).2.1.toNat (zw u.code[k].op).2.2.toNat&&(zl u.funcs.length u.funs u.code[k]&&(zbu u.code[k]&&(zby u.lits u.code[k]&&zb2 u.code k u.code[k] (zw u.code[k].op).1.toNat)))))):=zzH rfl;have cf:=fun wx (hx:Below wr.heap.size wr wx)=>zlN B u lo fo go (some ⟨bc,oc,none⟩) lc fc gc cc bc (oc+k*10) u.code[k] so co' go' sc cc' gc' (zw u.code[k].op).1.toNat (zw u.code[k].op).2.1.toNat (zw u.code[k].op).2.2.toNat wx (hui.below hx) hll (hxb.below hx) hrl.1 hrl.2.1 hrl.2.2
    have cn:=fun wx (hx:Below wr.heap.size wr wx)=>zlW B u lo fo go (some ⟨bc,oc,none⟩) lc fc gc cc bc (oc+k*10) u.code[k] so co' go' sc cc' gc' wx (hui.below hx) HP.out.funcsLen HP.out.funsLen ((HP.out.below HFW.out).below hx).funs (hxb.below hx)
    have cm:=fun wx (hx:Below wr.heap.size wr wx)=>znq bc (oc+k*10) u.code[k] so co' go' sc cc' gc' wx ((HSP.out.below HFW.out).below hx) (hxb.below hx) (HNM.out _ (List.getElem_mem hlt))
    have cl:=fun wx (hx:Below wr.heap.size wr wx)=>znv B u lo fo go (some ⟨bc,oc,none⟩) lc fc gc cc bc (oc+k*10) u.code[k] so co' go' sc cc' gc' f wx (hui.below hx) hll ⟨(HLI.out.tms HFW.out).tms hx,fun t ht=>⟨HLV.out t ht,HCAP.out t ht⟩⟩ (hxb.below hx)
    have ct:=fun wx (hx:Below wr.heap.size wr wx)=>zk6 B u lo fo go lc fc gc cc bc oc k (zw u.code[k].op).1.toNat (zw u.code[k].op).2.1.toNat (zw u.code[k].op).2.2.toNat so co' go' sc cc' gc' wx (hui.below hx) ((HP.out.below HFW.out).below hx).code hcl hlt u.code[k] (hxb.below hx) hrl.1
    have CF:=zzH cf;have CN:=zzH cn;have CM:=zzH cm;have CL:=zzH cl;have CT:=zzH ct;clear cf cn cm cl ct hrl hxb hui;by_cases hop:1<=u.code[k].op/\u.code[k].op<=40
    ·have hro:=zhB hop wr (HRW.out.below HFW.out)
     have hok1:zc5 u.code[k].op=true:=by unfold zc5;exact zzT hop
     rw [hok1]at HINS;clear hop hok1;generalize zbd u.lits.length u.code[k] (zw u.code[k].op).1.toNat (zw u.code[k].op).2.1.toNat (zw u.code[k].op).2.2.toNat=b1 at *;generalize zb2 u.code k u.code[k] (zw u.code[k].op).1.toNat=b5 at *;generalize zl u.funcs.length u.funs u.code[k]=b2 at *;generalize zbu u.code[k]=b3 at *;generalize zby u.lits u.code[k]=b4 at *;generalize zeT u k u.code[k]=ib at *;generalize(zw u.code[k].op).1.toNat=h at *;generalize(zw u.code[k].op).2.1.toNat=l1 at *;generalize(zw u.code[k].op).2.2.toNat=l2 at *;generalize u.code[k].op=op at *;have hbad:ib=false->zbw u u.code 0=some k:=fun e=>by rw [HK.out,HST.out,e];rfl
     have hgood:ib=true->zbw u u.code 0=zbw u (u.code.drop (k+1)) (k+1):=fun e=>by rw [HK.out,HST.out,e];rfl
     have HBAD:=zzH hbad;have HGOOD:=zzH hgood;clear hbad hgood
     cases b1 with
     |false=>
      have hb:=HBAD.out (by rw [HINS.out];rfl);have E1:Hid (zco (f+1) u=k):=zzH (by rw [EI.out,hb]);have E2:Hid (zbt (f+1) u=6):=zzH (by rw [EE.out,hb]);clear hb;go_wp2_with fail;refine hro.mono ?_;rintro e w6 ⟨rfl,hb6⟩;have HW:=zzH (hb6.alloc hb6.size (.cells #[.int .i64 (h:Nat),.int .i64 (l1:Nat),.int .i64 (l2:Nat)] 87));have hR:=heap_alloc_new w6 (.cells #[.int .i64 (h:Nat),.int .i64 (l1:Nat),.int .i64 (l2:Nat)] 87);have HR:=zzH hR;have HWW:=zzH (zzR (w6.alloc (.cells #[.int .i64 (h:Nat),.int .i64 (l1:Nat),.int .i64 (l2:Nat)] 87)).heap.size (w6.alloc (.cells #[.int .i64 (h:Nat),.int .i64 (l1:Nat),.int .i64 (l2:Nat)] 87)));clear hb6 hR;go_wp2_with fail;generalize w6.alloc (.cells #[.int .i64 (h:Nat),.int .i64 (l1:Nat),.int .i64 (l2:Nat)] 87)=W6 at *;generalize w6.heap.size=R at *;refine(CF.out _ HW.out).mono ?_;rintro e v0 ⟨rfl,hc0⟩;have HV0:=zzH (ze HW.out hc0);have HZ0:=zzH (ze HWW.out hc0);clear hc0;go_wp2_with fail;go_ret2;exact⟨zc6 E1.out.symm E2.out.symm,HFW.out.trans (HV0.out.mono HFW.out.size)⟩
     |true=>
      cases b2 with
      |false=>
       have hb:=HBAD.out (by rw [HINS.out];rfl);have E1:Hid (zco (f+1) u=k):=zzH (by rw [EI.out,hb]);have E2:Hid (zbt (f+1) u=6):=zzH (by rw [EE.out,hb]);clear hb;go_wp2_with fail;refine hro.mono ?_;rintro e w6 ⟨rfl,hb6⟩;have HW:=zzH (hb6.alloc hb6.size (.cells #[.int .i64 (h:Nat),.int .i64 (l1:Nat),.int .i64 (l2:Nat)] 87));have hR:=heap_alloc_new w6 (.cells #[.int .i64 (h:Nat),.int .i64 (l1:Nat),.int .i64 (l2:Nat)] 87);have HR:=zzH hR;have HWW:=zzH (zzR (w6.alloc (.cells #[.int .i64 (h:Nat),.int .i64 (l1:Nat),.int .i64 (l2:Nat)] 87)).heap.size (w6.alloc (.cells #[.int .i64 (h:Nat),.int .i64 (l1:Nat),.int .i64 (l2:Nat)] 87)));clear hb6 hR;go_wp2_with fail;generalize w6.alloc (.cells #[.int .i64 (h:Nat),.int .i64 (l1:Nat),.int .i64 (l2:Nat)] 87)=W6 at *;generalize w6.heap.size=R at *;refine(CF.out _ HW.out).mono ?_;rintro e v0 ⟨rfl,hc0⟩;have HV0:=zzH (ze HW.out hc0);have HZ0:=zzH (ze HWW.out hc0);clear hc0;go_wp2_with fail;refine(CN.out _ HV0.out).mono ?_;rintro e v1 ⟨rfl,hc1⟩;have HV1:=zzH (ze HV0.out hc1);have HZ1:=zzH (ze HZ0.out hc1);clear hc1;go_wp2_with fail;go_ret2;exact⟨zc6 E1.out.symm E2.out.symm,HFW.out.trans (HV1.out.mono HFW.out.size)⟩
      |true=>
       cases b3 with
       |false=>
        have hb:=HBAD.out (by rw [HINS.out];rfl);have E1:Hid (zco (f+1) u=k):=zzH (by rw [EI.out,hb]);have E2:Hid (zbt (f+1) u=6):=zzH (by rw [EE.out,hb]);clear hb;go_wp2_with fail;refine hro.mono ?_;rintro e w6 ⟨rfl,hb6⟩;have HW:=zzH (hb6.alloc hb6.size (.cells #[.int .i64 (h:Nat),.int .i64 (l1:Nat),.int .i64 (l2:Nat)] 87));have hR:=heap_alloc_new w6 (.cells #[.int .i64 (h:Nat),.int .i64 (l1:Nat),.int .i64 (l2:Nat)] 87);have HR:=zzH hR;have HWW:=zzH (zzR (w6.alloc (.cells #[.int .i64 (h:Nat),.int .i64 (l1:Nat),.int .i64 (l2:Nat)] 87)).heap.size (w6.alloc (.cells #[.int .i64 (h:Nat),.int .i64 (l1:Nat),.int .i64 (l2:Nat)] 87)));clear hb6 hR;go_wp2_with fail;generalize w6.alloc (.cells #[.int .i64 (h:Nat),.int .i64 (l1:Nat),.int .i64 (l2:Nat)] 87)=W6 at *;generalize w6.heap.size=R at *;refine(CF.out _ HW.out).mono ?_;rintro e v0 ⟨rfl,hc0⟩;have HV0:=zzH (ze HW.out hc0);have HZ0:=zzH (ze HWW.out hc0);clear hc0;go_wp2_with fail;refine(CN.out _ HV0.out).mono ?_;rintro e v1 ⟨rfl,hc1⟩;have HV1:=zzH (ze HV0.out hc1);have HZ1:=zzH (ze HZ0.out hc1);clear hc1;go_wp2_with fail;refine(CM.out _ HV1.out).mono ?_;rintro e v2 ⟨rfl,hc2⟩;have HV2:=zzH (ze HV1.out hc2);have HZ2:=zzH (ze HZ1.out hc2);clear hc2;go_wp2_with fail;go_ret2;exact⟨zc6 E1.out.symm E2.out.symm,HFW.out.trans (HV2.out.mono HFW.out.size)⟩
       |true=>
        cases b4 with
        |false=>
         have hb:=HBAD.out (by rw [HINS.out];rfl);have E1:Hid (zco (f+1) u=k):=zzH (by rw [EI.out,hb]);have E2:Hid (zbt (f+1) u=6):=zzH (by rw [EE.out,hb]);clear hb;go_wp2_with fail;refine hro.mono ?_;rintro e w6 ⟨rfl,hb6⟩;have HW:=zzH (hb6.alloc hb6.size (.cells #[.int .i64 (h:Nat),.int .i64 (l1:Nat),.int .i64 (l2:Nat)] 87));have hR:=heap_alloc_new w6 (.cells #[.int .i64 (h:Nat),.int .i64 (l1:Nat),.int .i64 (l2:Nat)] 87);have HR:=zzH hR;have HWW:=zzH (zzR (w6.alloc (.cells #[.int .i64 (h:Nat),.int .i64 (l1:Nat),.int .i64 (l2:Nat)] 87)).heap.size (w6.alloc (.cells #[.int .i64 (h:Nat),.int .i64 (l1:Nat),.int .i64 (l2:Nat)] 87)));clear hb6 hR;go_wp2_with fail;generalize w6.alloc (.cells #[.int .i64 (h:Nat),.int .i64 (l1:Nat),.int .i64 (l2:Nat)] 87)=W6 at *;generalize w6.heap.size=R at *;refine(CF.out _ HW.out).mono ?_;rintro e v0 ⟨rfl,hc0⟩;have HV0:=zzH (ze HW.out hc0);have HZ0:=zzH (ze HWW.out hc0);clear hc0;go_wp2_with fail;refine(CN.out _ HV0.out).mono ?_;rintro e v1 ⟨rfl,hc1⟩;have HV1:=zzH (ze HV0.out hc1);have HZ1:=zzH (ze HZ0.out hc1);clear hc1;go_wp2_with fail;refine(CM.out _ HV1.out).mono ?_;rintro e v2 ⟨rfl,hc2⟩;have HV2:=zzH (ze HV1.out hc2);have HZ2:=zzH (ze HZ1.out hc2);clear hc2;go_wp2_with fail;refine(CL.out _ HV2.out).mono ?_;rintro e v3 ⟨rfl,hc3⟩;have HV3:=zzH (ze HV2.out hc3);have HZ3:=zzH (ze HZ2.out hc3);clear hc3;go_wp2_with fail;go_ret2;exact⟨zc6 E1.out.symm E2.out.symm,HFW.out.trans (HV3.out.mono HFW.out.size)⟩
        |true=>
         cases b5 with
         |false=>
          have hb:=HBAD.out (by rw [HINS.out];rfl);have E1:Hid (zco (f+1) u=k):=zzH (by rw [EI.out,hb]);have E2:Hid (zbt (f+1) u=6):=zzH (by rw [EE.out,hb]);clear hb;go_wp2_with fail;refine hro.mono ?_;rintro e w6 ⟨rfl,hb6⟩;have HW:=zzH (hb6.alloc hb6.size (.cells #[.int .i64 (h:Nat),.int .i64 (l1:Nat),.int .i64 (l2:Nat)] 87));have hR:=heap_alloc_new w6 (.cells #[.int .i64 (h:Nat),.int .i64 (l1:Nat),.int .i64 (l2:Nat)] 87);have HR:=zzH hR;have HWW:=zzH (zzR (w6.alloc (.cells #[.int .i64 (h:Nat),.int .i64 (l1:Nat),.int .i64 (l2:Nat)] 87)).heap.size (w6.alloc (.cells #[.int .i64 (h:Nat),.int .i64 (l1:Nat),.int .i64 (l2:Nat)] 87)));clear hb6 hR;go_wp2_with fail;generalize w6.alloc (.cells #[.int .i64 (h:Nat),.int .i64 (l1:Nat),.int .i64 (l2:Nat)] 87)=W6 at *;generalize w6.heap.size=R at *;refine(CF.out _ HW.out).mono ?_;rintro e v0 ⟨rfl,hc0⟩;have HV0:=zzH (ze HW.out hc0);have HZ0:=zzH (ze HWW.out hc0);clear hc0;go_wp2_with fail;refine(CN.out _ HV0.out).mono ?_;rintro e v1 ⟨rfl,hc1⟩;have HV1:=zzH (ze HV0.out hc1);have HZ1:=zzH (ze HZ0.out hc1);clear hc1;go_wp2_with fail;refine(CM.out _ HV1.out).mono ?_;rintro e v2 ⟨rfl,hc2⟩;have HV2:=zzH (ze HV1.out hc2);have HZ2:=zzH (ze HZ1.out hc2);clear hc2;go_wp2_with fail;refine(CL.out _ HV2.out).mono ?_;rintro e v3 ⟨rfl,hc3⟩;have HV3:=zzH (ze HV2.out hc3);have HZ3:=zzH (ze HZ2.out hc3);clear hc3;have hrr:=(HZ3.out.block R (zc HR.out)).trans HR.out;obtain ⟨g0,g1,g2⟩:=zzc3 hrr;clear hrr;go_wp2_with fail;refine(CT.out _ HV3.out).mono ?_;rintro e v4 ⟨rfl,hc4⟩;have HV4:=zzH (ze HV3.out hc4);have HZ4:=zzH (ze HZ3.out hc4);clear hc4;go_wp2_with fail;go_ret2;exact⟨zc6 E1.out.symm E2.out.symm,HFW.out.trans (HV4.out.mono HFW.out.size)⟩
         |true=>
          have HNX:=zzH (HGOOD.out (by rw [HINS.out];rfl));go_wp2_with fail;refine hro.mono ?_;rintro e w6 ⟨rfl,hb6⟩;have HW:=zzH (hb6.alloc hb6.size (.cells #[.int .i64 (h:Nat),.int .i64 (l1:Nat),.int .i64 (l2:Nat)] 87));have hR:=heap_alloc_new w6 (.cells #[.int .i64 (h:Nat),.int .i64 (l1:Nat),.int .i64 (l2:Nat)] 87);have HR:=zzH hR;have HWW:=zzH (zzR (w6.alloc (.cells #[.int .i64 (h:Nat),.int .i64 (l1:Nat),.int .i64 (l2:Nat)] 87)).heap.size (w6.alloc (.cells #[.int .i64 (h:Nat),.int .i64 (l1:Nat),.int .i64 (l2:Nat)] 87)));clear hb6 hR;go_wp2_with fail;generalize w6.alloc (.cells #[.int .i64 (h:Nat),.int .i64 (l1:Nat),.int .i64 (l2:Nat)] 87)=W6 at *;generalize w6.heap.size=R at *;refine(CF.out _ HW.out).mono ?_;rintro e v0 ⟨rfl,hc0⟩;have HV0:=zzH (ze HW.out hc0);have HZ0:=zzH (ze HWW.out hc0);clear hc0;go_wp2_with fail;refine(CN.out _ HV0.out).mono ?_;rintro e v1 ⟨rfl,hc1⟩;have HV1:=zzH (ze HV0.out hc1);have HZ1:=zzH (ze HZ0.out hc1);clear hc1;go_wp2_with fail;refine(CM.out _ HV1.out).mono ?_;rintro e v2 ⟨rfl,hc2⟩;have HV2:=zzH (ze HV1.out hc2);have HZ2:=zzH (ze HZ1.out hc2);clear hc2;go_wp2_with fail;refine(CL.out _ HV2.out).mono ?_;rintro e v3 ⟨rfl,hc3⟩;have HV3:=zzH (ze HV2.out hc3);have HZ3:=zzH (ze HZ2.out hc3);clear hc3;have hrr:=(HZ3.out.block R (zc HR.out)).trans HR.out;obtain ⟨g0,g1,g2⟩:=zzc3 hrr;clear hrr;go_wp2_with fail;refine(CT.out _ HV3.out).mono ?_;rintro e v4 ⟨rfl,hc4⟩;have HV4:=zzH (ze HV3.out hc4);have HZ4:=zzH (ze HZ3.out hc4);clear hc4;go_wp2_with fail;go_roundw
          case rel=>exact⟨k+1,by omega,by go_num,HNX,hBw.trans (HV4.out.mono hBw.size)⟩
          case measure=>simp [intOf];omega
    ·have hb:zbw u u.code 0=some k:=by rw [HK.out,HST.out,HINS.out];unfold zc5;rw [decide_eq_false hop];simp
     have E1:Hid (zco (f+1) u=k):=zzH (by rw [EI.out,hb]);have E2:Hid (zbt (f+1) u=6):=zzH (by rw [EE.out,hb]);have hro:=zjX u.code[k].op hop wr;clear hb hop;generalize u.code[k].op=op at *;go_wp2_with fail;refine hro.mono ?_;rintro e w6 ⟨rfl,hb6⟩;have HF:=zzH (HFW.out.trans (hb6.mono HFW.out.size));go_wp2_with fail;go_ret2;exact⟨zc6 E1.out.symm E2.out.symm,HF.out.alloc HF.out.size _⟩
   ·have E:Hid (zbw u u.code 0=none):=zzH (by rw [HK.out,zzq6 (by omega)];rfl)
    have E1:Hid (zco (f+1) u=0):=zzH (by rw [EI.out,E.out]);have E2:Hid (zbt (f+1) u=0):=zzH (by rw [EE.out,E.out]);have HF:Hid (Below w.heap.size w wr):=zzH (by rw [HBE.out];exact HB5.out.trans (hBw.mono hsz));go_wp2_with fail;go_ret2;exact⟨zc6 E1.out.symm E2.out.symm,HF.out⟩
theorem zcv {n a b:Int} (h:wi n a b=true):a<=n/\n<=b:=by
 exact zz55
theorem zho (s:ByteArray):s.toList.length=s.size:=by rw [zzq10];rfl
theorem zek {s:ByteArray} {l:List UInt8} (h:(s.toList==l)=true):s.size=l.length:=by rw [<-zho,eq_of_beq h]
theorem zmh: ∀k,(h:k<41)->(zm (rowT[k]'h).1.toNat 16=true->k=12)/\(zm (rowT[k]'h).1.toNat 8=true->k=13∨k=14∨k=15) /\
  (zm (rowT[k]'h).1.toNat 4=true->k=4∨k=5∨k=9∨k=15∨k=16∨k=17∨k=18∨k=19∨k=20∨k=21∨k=24∨k=31∨k=32∨k=33)/\(rowT[k]'h).2.2<=255:=by decide
theorem zkF {op:Int} (h:1<=op/\op<=40):(zm (zw op).1.toNat 16=true->op=12)/\(zm (zw op).1.toNat 8=true->op=13∨op=14∨op=15) /\
  (zm (zw op).1.toNat 4=true->op=4∨op=5∨op=9∨op=15∨op=16∨op=17∨op=18∨op=19∨op=20∨op=21∨op=24∨op=31∨op=32∨op=33)/\(zw op).2.2<=255:=by
 obtain⟨k,rfl⟩: ∃k:Nat,op=(k:Int):=⟨op.toNat,by omega⟩;have hk:k<41:=by omega
 have hra:zw (k:Int)=rowT[k]'hk:=by unfold zw;rw [zzq11,zzq8 (by exact hk)];rfl
 rw [hra];obtain⟨a,b,c,d⟩:=zmh k hk;exact⟨fun h=>by have:=a h;omega,fun h=>by have:=b h;omega,fun h=>by have:=c h;omega,d⟩
structure TabOk (u:RUnit):Prop where
 mdl:u.mdl.size<=32
 vsn0:1<=u.vsn
 vsn1:u.vsn<=2147483647
 code0:1<=u.code.length
 code1:u.code.length<=524288
 lits:u.lits.length<=65535
 funcs:u.funcs.length<=200
 funs:u.funs.length<=1000
 func: ∀g∈u.funcs,g.name.size<=32/\0<=g.arity/\g.arity<=16/\0<=g.entry/\g.entry<=524288
 fn: ∀g∈u.funs,0<=g.arity/\g.arity<=16/\0<=g.free/\g.free<=200/\0<=g.entry/\g.entry<=524288
theorem zh8 {s:ByteArray} (h:zB s=true):s.size<=32:=by
 unfold zB at h;rw [Bool.and_eq_true,Bool.and_eq_true,decide_eq_true_eq,decide_eq_true_eq]at h;exact h.1.2
theorem zsg {f:Nat} {u:RUnit} (h:zba f u=true):TabOk u:=by
 unfold zba zgx at h;simp only [Bool.and_eq_true,decide_eq_true_eq]at h;obtain⟨⟨h1,h2,h3,h4,h5,h6,h7,h8⟩,_,hf,hg⟩:=h;refine⟨zh8 h1,h2,h3,by omega,by omega,h6,h7,h8,fun g hm=>?_,fun g hm=>?_⟩
 ·obtain⟨k,hk,rfl⟩:=List.getElem_of_mem hm
  have:=(of_decide_eq_true hf k hk).1;unfold zel at this;rw [Bool.and_eq_true,Bool.and_eq_true]at this;have a:=zcv this.2.1;have b:=zcv this.2.2;exact⟨zh8 this.1,by omega,by omega,by omega,by omega⟩
 ·have:=List.all_eq_true.1 hg g hm
  unfold zcK at this;rw [Bool.and_eq_true,Bool.and_eq_true]at this;have a:=zcv this.1;have b:=zcv this.2.1;have c:=zcv this.2.2;omega
theorem zjR {u:RUnit}: ∀(l:List RIns) (i:Nat),zbw u l i=none-> ∀k (h:k<l.length),zeT u (i+k) l[k]=true
 |[],_,_,k,h=>absurd h (Nat.not_lt_zero _)
 |x::l,i,hb,k,h=>by
  unfold zbw at hb;split at hb
  ·rename_i e
   cases k with
   |zero=>exact e
   |succ k=>
    have:=zjR l (i+1) hb k (by simpa using h);rw [show i+(k+1)=i+1+k by omega];exact this
  ·cases hb
theorem zj5 {f:Nat} {u:RUnit} (h:zbt f u=0):TabOk u/\zba f u=true/\ ∀k (hk:k<u.code.length),zeT u k u.code[k]=true:=by
 unfold zbt at h;split at h
 ·rename_i ht
  cases hb:zbw u u.code 0 with
  |some i=>rw [hb]at h;exact absurd (show(6:Int)=0 from h) (by decide)
  |none=>
   refine⟨zsg ht,ht,fun k hk=>?_⟩;have:=zjR u.code 0 hb k hk
   rwa [Nat.zero_add]at this
 ·exact absurd h (by decide)
theorem zgp {nl:Nat} {a:RArg} (hl:nl<=65535) (h:zbv nl a=true):WArg a:=by
 unfold zbv at h;split at h
 ·exact zz61
 ·split at h
  ·exact zz61
  ·split at h
   ·exact zz61
   ·cases h
theorem zi5 {s:ByteArray} {n:Int} (h:zT s n=true):s.size<=100:=by
 unfold zT at h;split at h
 ·rename_i e;rw [zek e];decide
 ·split at h
  ·rename_i e
   rw [Bool.or_eq_true]at e;rcases e with e|e<;>rw [zek e]<;>decide
  ·split at h
   ·rename_i e
    rw [List.any_eq_true]at e;obtain⟨x,hx,e⟩:=e;rw [zek e];have:opTwo.all (fun x=>decide (x.length<=100))=true:=by decide
    exact of_decide_eq_true (List.all_eq_true.1 this x hx)
   ·cases h
theorem zfn {c:Int}: ∀(ws:List (List UInt8)) (t:List UInt8->Int) {k:List UInt8},zcM c ws t k≠0->k∈ws∨t k≠0
 |[],_,_,h=>.inr h
 |x::ws,t,k,h=>by
  have h':zcM c ws (zfi t x c) k≠0:=h;rcases zfn ws _ h' with h1|h1
  ·exact .inl (List.mem_cons_of_mem _ h1)
  ·unfold zfi at h1
   by_cases e:k=x
   ·subst e;exact .inl List.mem_cons_self
   ·rw [if_neg e]at h1;exact .inr h1
theorem zkE:(words4++(words3++(words2++words1))).all (fun x=>decide (x.length<=100))=true:=by decide
theorem zj3 {k:List UInt8} (h:zfq k≠0):k.length<=100:=by
 have hm:k∈words4++(words3++(words2++words1)):=by
  unfold zfq at h;rw [List.mem_append,List.mem_append,List.mem_append];rcases zfn _ _ h with h|h
  ·exact .inl h
  ·rcases zfn _ _ h with h|h
   ·exact .inr (.inl h)
   ·rcases zfn _ _ h with h|h
    ·exact .inr (.inr (.inl h))
    ·rcases zfn _ _ h with h|h
     ·exact .inr (.inr (.inr h))
     ·exact absurd rfl h
 exact of_decide_eq_true (List.all_eq_true.1 zkE _ hm)
theorem zfA {s:ByteArray} {n c:Int} (h:(zbJ s n==c)=true) (hc:c≠0):s.size<=100:=by
 have h:=eq_of_beq h;unfold zbJ at h;split at h
 ·exact absurd h.symm hc
 ·have:=zj3 (k:=s.data.toList++ [47]++txt n) (by rw [h];exact hc)
  rw [zzq1,zzq1,Array.length_toList]at this;show s.data.size<=100;omega
theorem zmT {x:RIns} (h:zbu x=true) (ho:x.op=13∨x.op=14∨x.op=15):x.name.size<=100:=by
 unfold zbu at h;split at h
 ·rw [Bool.or_eq_true,Bool.or_eq_true,Bool.or_eq_true,Bool.and_eq_true,Bool.and_eq_true]at h
  rcases h with(h|h)|(h|h)
  ·rw [zek h];decide
  ·rw [zek h.1];decide
  ·exact zi5 h.2
  ·exact zfA h (by decide)
 ·split at h
  ·rw [Bool.or_eq_true,Bool.or_eq_true]at h
   rcases h with(h|h)|h
   ·exact zi5 h
   ·exact zfA h (by decide)
   ·exact zfA h (by decide)
  ·split at h
   ·rw [Bool.or_eq_true,Bool.and_eq_true]at h
    rcases h with h|h
    ·rw [zek h.1];decide
    ·exact zfA h (by decide)
   ·omega
theorem ziL {nf:Nat} {funs:List RFun} {x:RIns} (hf:nf<=200) (hg:funs.length<=1000) (h:zl nf funs x=true)
  (ho:x.op=4∨x.op=5∨x.op=9∨x.op=15∨x.op=16∨x.op=17∨x.op=18∨x.op=19∨x.op=20∨x.op=21∨x.op=24∨x.op=31∨x.op=32∨x.op=33):0<=x.n/\x.n<=1000000:=by
 unfold zl at h;split at h
 ·rw [Bool.and_eq_true]at h;have:=zcv h.1;omega
 ·split at h
  ·have:=zcv h;omega
  ·split at h
   ·have:=zcv h;omega
   ·split at h
    ·have:=zcv h;omega
    ·split at h
     ·have:=zcv h;omega
     ·split at h
      ·have:=zcv h;omega
      ·split at h
       ·have:=zcv h;omega
       ·split at h
        ·rw [Bool.or_eq_true,decide_eq_true_eq,decide_eq_true_eq]at h;omega
        ·omega
theorem znD {u:RUnit} {i:Nat} {x:RIns} (ht:TabOk u) (h:zeT u i x=true):WIns (zw x.op).1.toNat x:=by
 unfold zeT at h;simp only [Bool.and_eq_true]at h;obtain⟨h0,h1,h2,h3,h4,h5⟩:=h;have hop:1<=x.op/\x.op<=40:=by unfold zc5 at h0;exact of_decide_eq_true h0
 obtain⟨r16,r8,r4,rhi⟩:=zkF hop;obtain⟨l1,l2,l3⟩:= @zgI x.op;generalize(zw x.op).1.toNat=h at *;unfold zbd at h1;simp only [Bool.and_eq_true]at h1;obtain⟨f1,f2,f3,f4,f5,f6,f7,f8,f9,f10⟩:=h1;have w3:=zcv f3;have w4:=zcv f4;have hlit:=ht.lits;have hcode:=ht.code1;unfold zby at h4;simp only [Bool.and_eq_true,decide_eq_true_eq]at h4;obtain⟨⟨g1,g2⟩,g3,g4⟩:=h4
 have hto:0<=x.to/\x.to<=1000000/\(∀c∈x.cases,0<=c.to/\c.to<=1000000):=by
  unfold zb2 at h5;split at h5
  ·rename_i ho
   rw [Bool.and_eq_true]at h5;have:=zcv h5.1;refine⟨by omega,by omega,fun c hc=>?_⟩
   have hn:zm h 16=false:=by
    cases e:zm h 16 with
    |false=>rfl
    |true=>have:=r16 e;omega
   rw [hn,Bool.false_or]at f9;have:=eq_of_beq f9;rw [List.length_eq_zero_iff]at this;rw [this]at hc;cases hc
  ·rw [Bool.and_eq_true]at h5
   refine⟨?_,?_,fun c hc=>?_⟩
   ·exact zz62
   ·exact zz62
   ·have:=zcv (List.all_eq_true.1 h5.1 c hc);omega
 refine⟨by omega,by omega,fun e=>?_,fun a ha=>zgp hlit (List.all_eq_true.1 f2 a ha),by omega,?_,?_,?_,fun c hc=>?_,?_,fun g hg=>?_,by omega,hto.1,hto.2.1,by omega,by omega⟩
 ·unfold zfw at f1
  rw [if_pos e,Bool.and_eq_true]at f1;exact zgp hlit f1.2
 ·cases e:zm h 4 with
  |false=>rw [e,Bool.false_or]at f5;have:=eq_of_beq f5;omega
  |true=>exact(ziL ht.funcs ht.funs h2 (r4 e)).1
 ·cases e:zm h 4 with
  |false=>rw [e,Bool.false_or]at f5;have:=eq_of_beq f5;omega
  |true=>exact(ziL ht.funcs ht.funs h2 (r4 e)).2
 ·cases e:zm h 8 with
  |false=>
   rw [e,Bool.false_or,List.isEmpty_iff]at f6;have:=zho x.name;rw [f6]at this;simp at this;omega
  |true=>exact zzY (zmT h3 (r8 e)) (by omega)
 ·obtain⟨k,hk,rfl⟩:=List.getElem_of_mem hc
  have:=of_decide_eq_true g3 k hk;unfold zcp at this;rw [Bool.and_eq_true,zgk hk]at this;have:=zcv this.1;exact⟨by omega,by omega,hto.2.2 _ hc⟩
 ·cases e:zm h 16 with
  |false=>rw [e,Bool.false_or]at f9;have:=eq_of_beq f9;omega
  |true=>
   have h12:=r16 e;rw [Bool.or_eq_true]at g1;rcases g1 with g1|g1
   ·rw [h12]at g1;cases g1
   ·have:=zcv g1;omega
 ·have:=List.all_eq_true.1 g4 g hg
  unfold zbY at this;simp only [Bool.and_eq_true]at this;obtain⟨s1,s2,s3,_⟩:=this;have s1:=zcv s1;refine⟨by omega,by omega,zgp hlit s2,?_⟩;rw [Bool.or_eq_true,Bool.and_eq_true,decide_eq_true_eq,decide_eq_true_eq]at s3;rcases s3 with s3|s3
  ·exact⟨by omega,by omega,by omega,by omega⟩
  ·exact zgp hlit s3
theorem zeA (l k:List UInt8):opt true l++k=l++k:=rfl
theorem zr8 (l k:List UInt8):opt false l++k=k:=rfl
theorem zoR (l:List RArg) {k:Nat} (h:k<l.length):zda (l.drop k)=zb0 l[k]++zda (l.drop (k+1)):=by
 unfold zda;rw [List.drop_eq_getElem_cons h];rfl
theorem zkM (l:List RCase) {k:Nat} (h:k<l.length):zbm (l.drop k)=zg l[k].lit.toNat++(zg l[k].to.toNat++zbm (l.drop (k+1))):=by
 unfold zbm;rw [List.drop_eq_getElem_cons h,List.flatMap_cons];unfold zgt;rw [zzq4]
theorem zmb (l:List RSeg) {k:Nat} (h:k<l.length):zbj (l.drop k)=zg l[k].type.toNat++(zb0 l[k].val++(zb0 l[k].size++(zdB l[k].little++zbj (l.drop (k+1))))):=by
 unfold zbj;rw [List.drop_eq_getElem_cons h,List.flatMap_cons];unfold ziC;simp only [zzq4]
theorem zio (h:Nat) (x:RIns):zeo h x=zg x.op.toNat++(opt (zm h 1) (zb0 x.dst)++(opt (zm h 2) (zg x.src.length++zda x.src)++(opt (zm h 4) (zg x.n.toNat)++(opt (zm h 8) (zJ x.name) ++
  (opt (zm h 16) (zg x.cases.length++zbm x.cases)++(opt (zm h 32) (zg x.segs.length++zbj x.segs)++(opt (zm h 64) (zg x.to.toNat)++(opt (zm h 128) (zg x.live.toNat)++ [])))))))):=by
 rw [List.append_nil];rfl
theorem zcq (h f:Nat) (hh:h<1000) (hf:f<1000):bits .and .i64 (h:Int) (f:Int)=((h&&&f:Nat):Int)/\((((h&&&f:Nat):Int)!=0)=zm h f):=by
 refine⟨zhj h f (by omega) (by omega),?_⟩;unfold zm;by_cases c:h&&&f=0
 ·rw [c];rfl
 ·rw [decide_eq_true c];rw [bne_iff_ne];omega
theorem WrAt.base {B r:Nat} {l:List UInt8} {w w':World} (h:WrAt B r l w) (hb:Below w.heap.size w w'):WrAt B r l w':=h.next hb
theorem zmO (w0:World) (r:Nat) (l:List UInt8) (b o:Nat) (x:RIns) (so co go:Option Addr) (sc cc gc:Nat) (w:World)
  (hrows:RowsAt w0) (hwr:WrAt w0.heap.size r l w) (hb0:Below w0.heap.size w0 w) (hx:IBox w0 b o x so co go sc cc gc) (hop:1<=x.op/\x.op<=40) (hw:WIns (zw x.op).1.toNat x) (hl:l.length<=70368740000000):
  Calls Tryz.prog 30 #[.pointer (some ⟨r,0,none⟩),.pointer (some ⟨b,o,none⟩)] w fun e w'=>e= .returned (.tuple #[])/\WrAt w0.heap.size r (l++zeo (zw x.op).1.toNat x) w'/\Below w0.heap.size w w'/\Stays w w':=by
 have HWR:=zzH hwr;have HX:=zzH hx;have HW:=zzH hw;have hro:=zhB hop w (hrows.below hb0);have hrl:= @zgI x.op;have hxw:=hx.below hb0;have c0:=hxw.c0;have hbl:=hxw.lt;have HBB:Hid (w0.heap.size<=w.heap.size):=zzH hb0.size;have HB0:=zzH hb0;have HE:=zzH (zio (zw x.op).1.toNat x);have ht1:=zcq (zw x.op).1.toNat 1 hrl.1 (by decide);have ht2:=zcq (zw x.op).1.toNat 2 hrl.1 (by decide);have ht4:=zcq (zw x.op).1.toNat 4 hrl.1 (by decide);have ht8:=zcq (zw x.op).1.toNat 8 hrl.1 (by decide);have ht16:=zcq (zw x.op).1.toNat 16 hrl.1 (by decide);have ht32:=zcq (zw x.op).1.toNat 32 hrl.1 (by decide);have ht64:=zcq (zw x.op).1.toNat 64 hrl.1 (by decide);have ht128:=zcq (zw x.op).1.toNat 128 hrl.1 (by decide);have HDST:=zzH hw.dst;clear hwr hx hw hrows hb0 hxw hrl hop;generalize zeo (zw x.op).1.toNat x=WW at *;generalize zm (zw x.op).1.toNat 1=q1 at *;generalize zm (zw x.op).1.toNat 2=q2 at *;generalize zm (zw x.op).1.toNat 4=q4 at *;generalize zm (zw x.op).1.toNat 8=q8 at *;generalize zm (zw x.op).1.toNat 16=q16 at *;generalize zm (zw x.op).1.toNat 32=q32 at *;generalize zm (zw x.op).1.toNat 64=q64 at *;generalize zm (zw x.op).1.toNat 128=q128 at *;generalize(zw x.op).1.toNat&&&1=y1 at *;generalize(zw x.op).1.toNat&&&2=y2 at *;generalize(zw x.op).1.toNat&&&4=y4 at *;generalize(zw x.op).1.toNat&&&8=y8 at *;generalize(zw x.op).1.toNat&&&16=y16 at *;generalize(zw x.op).1.toNat&&&32=y32 at *;generalize(zw x.op).1.toNat&&&64=y64 at *;generalize(zw x.op).1.toNat&&&128=y128 at *;generalize(zw x.op).1.toNat=h at *;generalize(zw x.op).2.1.toNat=l1 at *;generalize(zw x.op).2.2.toNat=l2 at *;obtain⟨a1,e1⟩:=ht1;have a1':bits .and .i64 (h:Int) 1=(y1:Int):=a1;clear a1;obtain⟨a2,e2⟩:=ht2;have a2':bits .and .i64 (h:Int) 2=(y2:Int):=a2;clear a2;obtain⟨a4,e4⟩:=ht4;have a4':bits .and .i64 (h:Int) 4=(y4:Int):=a4;clear a4;obtain⟨a8,e8⟩:=ht8;have a8':bits .and .i64 (h:Int) 8=(y8:Int):=a8;clear a8;obtain⟨a16,e16⟩:=ht16;have a16':bits .and .i64 (h:Int) 16=(y16:Int):=a16;clear a16;obtain⟨a32,e32⟩:=ht32;have a32':bits .and .i64 (h:Int) 32=(y32:Int):=a32;clear a32;obtain⟨a64,e64⟩:=ht64;have a64':bits .and .i64 (h:Int) 64=(y64:Int):=a64;clear a64;obtain⟨a128,e128⟩:=ht128;have a128':bits .and .i64 (h:Int) 128=(y128:Int):=a128;clear a128;go_in;go_upto_region 1 with(go_at_call 33;refine hro.mono ?_;rintro e w6 ⟨rfl,hb6⟩);clear hro;have HWa:=zzH (hb6.alloc hb6.size (.cells #[.int .i64 (h:Nat),.int .i64 (l1:Nat),.int .i64 (l2:Nat)] 87));have HSa:Hid (Stays w (w6.alloc (.cells #[.int .i64 (h:Nat),.int .i64 (l1:Nat),.int .i64 (l2:Nat)] 87))):=zzH (((Stays.refl w).below hb6).alloc _);have HRa:=zzH (heap_alloc_new w6 (.cells #[.int .i64 (h:Nat),.int .i64 (l1:Nat),.int .i64 (l2:Nat)] 87));clear hb6;generalize w6.alloc (.cells #[.int .i64 (h:Nat),.int .i64 (l1:Nat),.int .i64 (l2:Nat)] 87)=Wa at *;generalize w6.heap.size=R at *;have HXa:Hid (Below w0.heap.size w0 Wa):=zzH (HB0.out.trans (HWa.out.mono HBB.out));have HWRa:=zzH (HWR.out.next HWa.out);have HBa:Hid (w0.heap.size<=Wa.heap.size):=zzH (zzY HBB.out HWa.out.size);clear c0 hbl HWR;have hxa:=HX.out.below HXa.out;have c0:=hxa.c0;have hbl:=hxa.lt;clear hxa;have HW0:Hid (l++WW=(l++zg x.op.toNat)++(opt q1 (zb0 x.dst)++(opt q2 ((zg x.src.length++zda x.src))++(opt q4 (zg x.n.toNat)++(opt q8 (zJ x.name)++(opt q16 ((zg x.cases.length++zbm x.cases))++(opt q32 ((zg x.segs.length++zbj x.segs))++(opt q64 (zg x.to.toNat)++(opt q128 (zg x.live.toNat)++([]:List UInt8)))))))))):=zzH (by rw [HE.out,zzq4]);generalize hWW:l++WW=W at *;have HWW:=zzH hWW;clear hWW;have hvl:=zE x.op.toNat;go_upto_if 29 with(go_at_call 27;refine(zbD w0.heap.size r l x.op _ HWRa.out HW.out.op0 (Int.le_trans HW.out.op1 (by decide)) (by omega)).mono ?_;rintro e w1 ⟨rfl,h1,hb1,hs1⟩;have hcR:w1.cell? ⟨R,0,none⟩=some (.int .i64 (h:Nat)):=by rw [zzq2 _ _ _ _ _ _ (hs1 _ _ _ _ HRa.out (by decide) (by decide))];rfl);have HH1:=zzH h1;have HHB1:=zzH hb1;have HHS1:=zzH hs1;clear h1 hb1 hs1 c0;obtain⟨p,HP,hpl,HWp,HBp,HSp⟩: ∃p:List UInt8,Hid (W=p++(opt q1 (zb0 x.dst)++(opt q2 ((zg x.src.length++zda x.src))++(opt q4 (zg x.n.toNat)++(opt q8 (zJ x.name)++(opt q16 ((zg x.cases.length++zbm x.cases))++(opt q32 ((zg x.segs.length++zbj x.segs))++(opt q64 (zg x.to.toNat)++(opt q128 (zg x.live.toNat)++([]:List UInt8))))))))))/\p.length<=l.length+110/\Hid (WrAt w0.heap.size r p w1)/\Hid (Below w0.heap.size Wa w1)/\Hid (Stays Wa w1):=⟨_,HW0,by rw [zzq1];omega,HH1,HHB1,HHS1⟩;clear HW0 HH1 HHB1 HHS1 hcR;go_cut [] (fun wx=> ∃p:List UInt8,Hid (W=p++(opt q2 ((zg x.src.length++zda x.src))++(opt q4 (zg x.n.toNat)++(opt q8 (zJ x.name)++(opt q16 ((zg x.cases.length++zbm x.cases))++(opt q32 ((zg x.segs.length++zbj x.segs))++(opt q64 (zg x.to.toNat)++(opt q128 (zg x.live.toNat)++([]:List UInt8)))))))))/\p.length<=l.length+50110/\Hid (WrAt w0.heap.size r p wx)/\Hid (Below w0.heap.size Wa wx)/\Hid (Stays Wa wx))
 case first=>
  cases q1 with
  |false=>
   exact zz63
  |true=>
   have hxc:=HX.out.below (HXa.out.trans HBp.out);have k1:=hxc.c1;have k2:=hxc.c2;have hbl2:=hxc.lt;clear hxc;have hd:=HDST.out rfl;have hal:=zc4 x.dst;go_wp2_with (go_at_call 61;refine(zgF w0.heap.size r p x.dst _ HWp.out (by omega) hd.n0 (Int.le_trans hd.n1 (by decide)) hd.k0 hd.k1).mono ?_;rintro e w2 ⟨rfl,h2,hb2,hs2⟩);go_meet
   case rel=>exact⟨p++zb0 x.dst,zzH (by rw [HP.out,zeA];rw [zzq4]),by(try simp only [zzq1]);omega,zzH h2,zzH (HBp.out.trans hb2),zzH (HSp.out.trans hs2)⟩
 case rest=>
  obtain⟨p,HP,hpl,HWp,HBp,HSp⟩:=hcut;have hcR:wc.cell? ⟨R,0,none⟩=some (.int .i64 (h:Nat)):=by rw [zzq2 _ _ _ _ _ _ (HSp.out _ _ _ _ HRa.out (by decide) (by decide))];rfl
  go_upto_if 39 with fail;clear hcR;go_cut [] (fun wx=> ∃p:List UInt8,Hid (W=p++(opt q4 (zg x.n.toNat)++(opt q8 (zJ x.name)++(opt q16 ((zg x.cases.length++zbm x.cases))++(opt q32 ((zg x.segs.length++zbj x.segs))++(opt q64 (zg x.to.toNat)++(opt q128 (zg x.live.toNat)++([]:List UInt8))))))))/\p.length<=l.length+100110/\Hid (WrAt w0.heap.size r p wx)/\Hid (Below w0.heap.size Wa wx)/\Hid (Stays Wa wx))
  case first=>
   cases q2 with
   |false=>
    exact zz63
   |true=>
    have hxc:=HX.out.below (HXa.out.trans HBp.out);have kc:=hxc.c3;have hbl2:=hxc.lt;clear hxc;have hlen:=HW.out.srcLen;have hvl:=zE x.src.length;go_wp2_with (go_at_call 27;refine(zbD w0.heap.size r p (x.src.length:Int) _ HWp.out (by omega) (by omega) (by omega)).mono ?_;rintro e w2 ⟨rfl,h2,hb2,hs2⟩;have kc2:=(HX.out.below (HXa.out.trans (HBp.out.trans hb2))).c3);rw [zzq11]at h2;have HQ:Hid (W=(p++zg x.src.length)++(zda (x.src.drop 0)++(opt q4 (zg x.n.toNat)++(opt q8 (zJ x.name)++(opt q16 ((zg x.cases.length++zbm x.cases))++(opt q32 ((zg x.segs.length++zbj x.segs))++(opt q64 (zg x.to.toNat)++(opt q128 (zg x.live.toNat)++([]:List UInt8))))))))):=zzH (by rw [HP.out,zeA,List.drop_zero];simp only [zzq4]);have hpl2:(p++zg x.src.length).length<=p.length+10:=by rw [zzq1];omega
    generalize p++zg x.src.length=p2 at *;have HB2:=zzH (HBp.out.trans hb2);have HS2:=zzH (HSp.out.trans hs2);have HW2:=zzH h2;clear hb2 hs2 h2 kc;go_loopw [52] (fun iv wr=> ∃(k:Nat) (p':List UInt8),k<=x.src.length/\iv= .int .i64 k/\Hid (W=p'++(zda (x.src.drop k)++(opt q4 (zg x.n.toNat)++(opt q8 (zJ x.name)++(opt q16 ((zg x.cases.length++zbm x.cases))++(opt q32 ((zg x.segs.length++zbj x.segs))++(opt q64 (zg x.to.toNat)++(opt q128 (zg x.live.toNat)++([]:List UInt8)))))))))/\p'.length<=p2.length+10*k/\Hid (WrAt w0.heap.size r p' wr)/\Hid (Below w0.heap.size Wa wr)/\Hid (Stays Wa wr)) (fun iv _=>x.src.length-(intOf iv).toNat)
    case atStart=>exact⟨0,p2,zzZ _,rfl,HQ,by omega,HW2,HB2,HS2⟩
    case round=>
     obtain⟨k,p',hk,rfl,HK,hpk,HWk,HBk,HSk⟩:=hrel;rename World=>wr
     by_cases hlt:k<x.src.length
     ·obtain⟨b2,off,hao,hb2,q0,q1,r0,r1⟩:=(HX.out.below (HXa.out.trans HBk.out)).src.arg hlt
      subst hao;have HST:=zzH (zoR x.src hlt);have HAW:=zzH (HW.out.src _ (List.getElem_mem hlt));generalize x.src[k]=a at *;have hba:=(zzR wr.heap.size wr).alloc (zzL _) (.cells #[.int .i64 a.kind,.int .i64 a.n] 59);have hsa:=(Stays.refl wr).alloc (.cells #[.int .i64 a.kind,.int .i64 a.n] 59);have hal:=zc4 a;have HBA:=zzH hba;have HSA:=zzH hsa;clear hba hsa;go_wp2_with (go_at_call 61;refine(zgF w0.heap.size r p' a _ (HWk.out.next HBA.out) (by omega) HAW.out.n0 (Int.le_trans HAW.out.n1 (by decide)) HAW.out.k0 HAW.out.k1).mono ?_;rintro e w3 ⟨rfl,h3,hb3,hs3⟩);go_roundw
      case rel=>exact⟨k+1,p'++zb0 a,by omega,by go_num,zzH (by rw [HK.out,HST.out];simp only [zzq4]),by rw [zzq1];omega,zzH h3,zzH ((HBk.out.trans (HBA.out.mono (zzY HBa.out HBk.out.size))).trans hb3),zzH ((HSk.out.trans HSA.out).trans hs3)⟩
      case measure=>simp [intOf];omega
     ·have HZ:Hid (W=p'++(opt q4 (zg x.n.toNat)++(opt q8 (zJ x.name)++(opt q16 ((zg x.cases.length++zbm x.cases))++(opt q32 ((zg x.segs.length++zbj x.segs))++(opt q64 (zg x.to.toNat)++(opt q128 (zg x.live.toNat)++([]:List UInt8)))))))):=zzH (by rw [HK.out,zzq6 (by omega)];rfl)
      exact zz64
  case rest=>
   obtain⟨p,HP,hpl,HWp,HBp,HSp⟩:=hcut;have hcR:wc.cell? ⟨R,0,none⟩=some (.int .i64 (h:Nat)):=by rw [zzq2 _ _ _ _ _ _ (HSp.out _ _ _ _ HRa.out (by decide) (by decide))];rfl
   go_upto_if 63 with fail;clear hcR;go_cut [] (fun wx=> ∃p:List UInt8,Hid (W=p++(opt q8 (zJ x.name)++(opt q16 ((zg x.cases.length++zbm x.cases))++(opt q32 ((zg x.segs.length++zbj x.segs))++(opt q64 (zg x.to.toNat)++(opt q128 (zg x.live.toNat)++([]:List UInt8)))))))/\p.length<=l.length+150110/\Hid (WrAt w0.heap.size r p wx)/\Hid (Below w0.heap.size Wa wx)/\Hid (Stays Wa wx))
   case first=>
    cases q4 with
    |false=>
     exact zz63
    |true=>
     have hxc:=HX.out.below (HXa.out.trans HBp.out);have k5:=hxc.c5;have hbl2:=hxc.lt;clear hxc;have hal:=zE x.n.toNat;go_wp2_with (go_at_call 27;refine(zbD w0.heap.size r p x.n _ HWp.out HW.out.n0 (Int.le_trans HW.out.n1 (by decide)) (by omega)).mono ?_;rintro e w2 ⟨rfl,h2,hb2,hs2⟩);go_meet
     case rel=>exact⟨p++zg x.n.toNat,zzH (by rw [HP.out,zeA];rw [zzq4]),by(try simp only [zzq1]);omega,(zzH h2),(zzH (HBp.out.trans hb2)),(zzH (HSp.out.trans hs2))⟩
   case rest=>
    obtain⟨p,HP,hpl,HWp,HBp,HSp⟩:=hcut;have hcR:wc.cell? ⟨R,0,none⟩=some (.int .i64 (h:Nat)):=by rw [zzq2 _ _ _ _ _ _ (HSp.out _ _ _ _ HRa.out (by decide) (by decide))];rfl
    go_upto_if 73 with fail;clear hcR;go_cut [] (fun wx=> ∃p:List UInt8,Hid (W=p++(opt q16 ((zg x.cases.length++zbm x.cases))++(opt q32 ((zg x.segs.length++zbj x.segs))++(opt q64 (zg x.to.toNat)++(opt q128 (zg x.live.toNat)++([]:List UInt8))))))/\p.length<=l.length+200110/\Hid (WrAt w0.heap.size r p wx)/\Hid (Below w0.heap.size Wa wx)/\Hid (Stays Wa wx))
    case first=>
     cases q8 with
     |false=>
      exact zz63
     |true=>
      have hxc:=HX.out.below (HXa.out.trans HBp.out);have k7:=hxc.c7;have hbl2:=hxc.lt;clear hxc;have hal:=zdo x.name;have hns:=HW.out.name;go_wp2_with (go_at_call 26;refine(zgc w0.heap.size r p x.name _ HWp.out (by omega) (by omega)).mono ?_;rintro e w2 ⟨rfl,h2,hb2,hs2⟩);go_meet
      case rel=>exact⟨p++zJ x.name,zzH (by rw [HP.out,zeA];rw [zzq4]),by(try simp only [zzq1]);omega,zzH h2,zzH (HBp.out.trans hb2),zzH (HSp.out.trans hs2)⟩
    case rest=>
     obtain⟨p,HP,hpl,HWp,HBp,HSp⟩:=hcut;have hcR:wc.cell? ⟨R,0,none⟩=some (.int .i64 (h:Nat)):=by rw [zzq2 _ _ _ _ _ _ (HSp.out _ _ _ _ HRa.out (by decide) (by decide))];rfl
     go_upto_if 83 with fail;clear hcR;go_cut [] (fun wx=> ∃p:List UInt8,Hid (W=p++(opt q32 ((zg x.segs.length++zbj x.segs))++(opt q64 (zg x.to.toNat)++(opt q128 (zg x.live.toNat)++([]:List UInt8)))))/\p.length<=l.length+250110/\Hid (WrAt w0.heap.size r p wx)/\Hid (Below w0.heap.size Wa wx)/\Hid (Stays Wa wx))
     case first=>
      cases q16 with
      |false=>
       exact zz63
      |true=>
       have hxc:=HX.out.below (HXa.out.trans HBp.out);have kc:=hxc.c8;have hbl2:=hxc.lt;clear hxc;have hlen:=HW.out.casesLen;have hvl:=zE x.cases.length;go_wp2_with (go_at_call 27;refine(zbD w0.heap.size r p (x.cases.length:Int) _ HWp.out (by omega) (by omega) (by omega)).mono ?_;rintro e w2 ⟨rfl,h2,hb2,hs2⟩;have kc2:=(HX.out.below (HXa.out.trans (HBp.out.trans hb2))).c8);rw [zzq11]at h2;have HQ:Hid (W=(p++zg x.cases.length)++(zbm (x.cases.drop 0)++(opt q32 ((zg x.segs.length++zbj x.segs))++(opt q64 (zg x.to.toNat)++(opt q128 (zg x.live.toNat)++([]:List UInt8)))))):=zzH (by rw [HP.out,zeA,List.drop_zero];simp only [zzq4]);have hpl2:(p++zg x.cases.length).length<=p.length+10:=by rw [zzq1];omega
       generalize p++zg x.cases.length=p2 at *;have HB2:=zzH (HBp.out.trans hb2);have HS2:=zzH (HSp.out.trans hs2);have HW2:=zzH h2;clear hb2 hs2 h2 kc;go_loopw [96] (fun iv wr=> ∃(k:Nat) (p':List UInt8),k<=x.cases.length/\iv= .int .i64 k/\Hid (W=p'++(zbm (x.cases.drop k)++(opt q32 ((zg x.segs.length++zbj x.segs))++(opt q64 (zg x.to.toNat)++(opt q128 (zg x.live.toNat)++([]:List UInt8))))))/\p'.length<=p2.length+20*k/\Hid (WrAt w0.heap.size r p' wr)/\Hid (Below w0.heap.size Wa wr)/\Hid (Stays Wa wr)) (fun iv _=>x.cases.length-(intOf iv).toNat)
       case atStart=>exact⟨0,p2,zzZ _,rfl,HQ,by omega,HW2,HB2,HS2⟩
       case round=>
        obtain⟨k,p',hk,rfl,HK,hpk,HWk,HBk,HSk⟩:=hrel;rename World=>wr
        by_cases hlt:k<x.cases.length
        ·obtain⟨b2,off,hao,hb2,q0,q1,r0,r1⟩:=(HX.out.below (HXa.out.trans HBk.out)).cases.case hlt
         subst hao;have HST:=zzH (zkM x.cases hlt);have HAW:=zzH (HW.out.cases _ (List.getElem_mem hlt));generalize x.cases[k]=a at *;have hba:=(zzR wr.heap.size wr).alloc (zzL _) (.cells #[.int .i64 a.lit,.int .i64 a.to] 94);have hsa:=(Stays.refl wr).alloc (.cells #[.int .i64 a.lit,.int .i64 a.to] 94);have hLc:=heap_alloc_new wr (.cells #[.int .i64 a.lit,.int .i64 a.to] 94);have hal:=zE a.lit.toNat;have hal2:=zE a.to.toNat;have HBA:=zzH hba;have HSA:=zzH hsa;have HLC:=zzH hLc;clear hba hsa hLc;go_wp2_with fail;refine(zbD w0.heap.size r p' a.lit _ (HWk.out.next HBA.out) HAW.out.1 (Int.le_trans HAW.out.2.1 (by decide)) (by omega)).mono ?_;rintro e w3 ⟨rfl,h3,hb3,hs3⟩;have g1:w3.cell? ⟨wr.heap.size,1,none⟩=some (.int .i64 a.to):=by rw [zzq2 _ _ _ _ _ _ (hs3 _ _ _ _ HLC.out (by decide) (by decide))];rfl
         have H3:=zzH h3;have HB3:=zzH hb3;have HS3:=zzH hs3;clear h3 hb3 hs3;go_wp2_with fail;refine(zbD w0.heap.size r (p'++zg a.lit.toNat) a.to _ H3.out HAW.out.2.2.1 (Int.le_trans HAW.out.2.2.2 (by decide)) (by rw [zzq1];omega)).mono ?_;rintro e w4 ⟨rfl,h4,hb4,hs4⟩;go_wp2_with fail;go_roundw
         case rel=>exact⟨k+1,(p'++zg a.lit.toNat)++zg a.to.toNat,by omega,by go_num,zzH (by rw [HK.out,HST.out];simp only [zzq4]),by rw [zzq1,zzq1];omega,zzH h4,zzH (((HBk.out.trans (HBA.out.mono (zzY HBa.out HBk.out.size))).trans HB3.out).trans hb4),zzH (((HSk.out.trans HSA.out).trans HS3.out).trans hs4)⟩
         case measure=>simp [intOf];omega
        ·have HZ:Hid (W=p'++(opt q32 ((zg x.segs.length++zbj x.segs))++(opt q64 (zg x.to.toNat)++(opt q128 (zg x.live.toNat)++([]:List UInt8))))):=zzH (by rw [HK.out,zzq6 (by omega)];rfl)
         exact zz64
     case rest=>
      obtain⟨p,HP,hpl,HWp,HBp,HSp⟩:=hcut;have hcR:wc.cell? ⟨R,0,none⟩=some (.int .i64 (h:Nat)):=by rw [zzq2 _ _ _ _ _ _ (HSp.out _ _ _ _ HRa.out (by decide) (by decide))];rfl
      go_upto_if 112 with fail;clear hcR;go_cut [] (fun wx=> ∃p:List UInt8,Hid (W=p++(opt q64 (zg x.to.toNat)++(opt q128 (zg x.live.toNat)++([]:List UInt8))))/\p.length<=l.length+300110/\Hid (WrAt w0.heap.size r p wx)/\Hid (Below w0.heap.size Wa wx)/\Hid (Stays Wa wx))
      case first=>
       cases q32 with
       |false=>
        exact zz63
       |true=>
        have hxc:=HX.out.below (HXa.out.trans HBp.out);have kc:=hxc.c9;have hbl2:=hxc.lt;clear hxc;have hlen:=HW.out.segsLen;have hvl:=zE x.segs.length;go_wp2_with (go_at_call 27;refine(zbD w0.heap.size r p (x.segs.length:Int) _ HWp.out (by omega) (by omega) (by omega)).mono ?_;rintro e w2 ⟨rfl,h2,hb2,hs2⟩;have kc2:=(HX.out.below (HXa.out.trans (HBp.out.trans hb2))).c9);rw [zzq11]at h2;have HQ:Hid (W=(p++zg x.segs.length)++(zbj (x.segs.drop 0)++(opt q64 (zg x.to.toNat)++(opt q128 (zg x.live.toNat)++([]:List UInt8))))):=zzH (by rw [HP.out,zeA,List.drop_zero];simp only [zzq4]);have hpl2:(p++zg x.segs.length).length<=p.length+10:=by rw [zzq1];omega
        generalize p++zg x.segs.length=p2 at *;have HB2:=zzH (HBp.out.trans hb2);have HS2:=zzH (HSp.out.trans hs2);have HW2:=zzH h2;clear hb2 hs2 h2 kc;go_loopw [125] (fun iv wr=> ∃(k:Nat) (p':List UInt8),k<=x.segs.length/\iv= .int .i64 k/\Hid (W=p'++(zbj (x.segs.drop k)++(opt q64 (zg x.to.toNat)++(opt q128 (zg x.live.toNat)++([]:List UInt8)))))/\p'.length<=p2.length+40*k/\Hid (WrAt w0.heap.size r p' wr)/\Hid (Below w0.heap.size Wa wr)/\Hid (Stays Wa wr)) (fun iv _=>x.segs.length-(intOf iv).toNat)
        case atStart=>exact⟨0,p2,zzZ _,rfl,HQ,by omega,HW2,HB2,HS2⟩
        case round=>
         obtain⟨k,p',hk,rfl,HK,hpk,HWk,HBk,HSk⟩:=hrel;rename World=>wr
         by_cases hlt:k<x.segs.length
         ·obtain⟨b2,off,hao,hb2,q0,q1,q2,q3,q4,q5,r0,r1,r2,r3,r4⟩:=(HX.out.below (HXa.out.trans HBk.out)).segs.seg hlt
          subst hao;have HST:=zzH (zmb x.segs hlt);have HAW:=zzH (HW.out.segs _ (List.getElem_mem hlt));generalize x.segs[k]=a at *;have hba:=(zzR wr.heap.size wr).alloc (zzL _) (.cells #[.int .i64 a.type,.int .i64 a.val.kind,.int .i64 a.val.n,.int .i64 a.size.kind,.int .i64 a.size.n,.bool a.little] 98);have hsa:=(Stays.refl wr).alloc (.cells #[.int .i64 a.type,.int .i64 a.val.kind,.int .i64 a.val.n,.int .i64 a.size.kind,.int .i64 a.size.n,.bool a.little] 98);have hLc:=heap_alloc_new wr (.cells #[.int .i64 a.type,.int .i64 a.val.kind,.int .i64 a.val.n,.int .i64 a.size.kind,.int .i64 a.size.n,.bool a.little] 98);have hal:=zE a.type.toNat;have hal2:=zc4 a.val;have hal3:=zc4 a.size;have hal4:=zfl a.little;have HBA:=zzH hba;have HSA:=zzH hsa;have HLC:=zzH hLc;clear hba hsa hLc;go_wp2_with fail;refine(zbD w0.heap.size r p' a.type _ (HWk.out.next HBA.out) HAW.out.1 (Int.le_trans HAW.out.2.1 (by decide)) (by omega)).mono ?_;rintro e w3 ⟨rfl,h3,hb3,hs3⟩;have HL3:=zzH (hs3 _ _ _ _ HLC.out (by decide) (by decide));have H3:=zzH h3;have HB3:=zzH hb3;have HS3:=zzH hs3;clear h3 hb3 hs3;have g1:w3.cell? ⟨wr.heap.size,1,none⟩=some (.int .i64 a.val.kind):=by rw [zzq2 _ _ _ _ _ _ HL3.out];rfl
          have g2:w3.cell? ⟨wr.heap.size,2,none⟩=some (.int .i64 a.val.n):=by rw [zzq2 _ _ _ _ _ _ HL3.out];rfl
          go_wp2_with fail;refine(zgF w0.heap.size r (p'++zg a.type.toNat) a.val _ H3.out (by rw [zzq1];omega) HAW.out.2.2.1.n0 (Int.le_trans HAW.out.2.2.1.n1 (by decide)) HAW.out.2.2.1.k0 HAW.out.2.2.1.k1).mono ?_;rintro e w4 ⟨rfl,h4,hb4,hs4⟩;have HL4:=zzH (hs4 _ _ _ _ HL3.out (by decide) (by decide));have H4:=zzH h4;have HB4:=zzH hb4;have HS4:=zzH hs4;clear h4 hb4 hs4 g1 g2;have g3:w4.cell? ⟨wr.heap.size,3,none⟩=some (.int .i64 a.size.kind):=by rw [zzq2 _ _ _ _ _ _ HL4.out];rfl
          have g4:w4.cell? ⟨wr.heap.size,4,none⟩=some (.int .i64 a.size.n):=by rw [zzq2 _ _ _ _ _ _ HL4.out];rfl
          go_wp2_with fail;refine(zgF w0.heap.size r ((p'++zg a.type.toNat)++zb0 a.val) a.size _ H4.out (by rw [zzq1,zzq1];omega) HAW.out.2.2.2.n0 (Int.le_trans HAW.out.2.2.2.n1 (by decide)) HAW.out.2.2.2.k0 HAW.out.2.2.2.k1).mono ?_;rintro e w5 ⟨rfl,h5,hb5,hs5⟩;have HL5:=zzH (hs5 _ _ _ _ HL4.out (by decide) (by decide));have H5:=zzH h5;have HB5:=zzH hb5;have HS5:=zzH hs5;clear h5 hb5 hs5 g3 g4;have g5:w5.cell? ⟨wr.heap.size,5,none⟩=some (.bool a.little):=by rw [zzq2 _ _ _ _ _ _ HL5.out];rfl
          go_wp2_with fail;refine(zjf w0.heap.size r (((p'++zg a.type.toNat)++zb0 a.val)++zb0 a.size) a.little _ H5.out (by rw [zzq1,zzq1,zzq1];omega)).mono ?_;rintro e w7 ⟨rfl,h7,hb7,hs7⟩;go_wp2_with fail;go_roundw
          case rel=>exact⟨k+1,(((p'++zg a.type.toNat)++zb0 a.val)++zb0 a.size)++zdB a.little,by omega,by go_num,zzH (by rw [HK.out,HST.out];simp only [zzq4]),by simp only [zzq1];omega,zzH h7,zzH (((((HBk.out.trans (HBA.out.mono (zzY HBa.out HBk.out.size))).trans HB3.out).trans HB4.out).trans HB5.out).trans hb7),zzH (((((HSk.out.trans HSA.out).trans HS3.out).trans HS4.out).trans HS5.out).trans hs7)⟩
          case measure=>simp [intOf];omega
         ·have HZ:Hid (W=p'++(opt q64 (zg x.to.toNat)++(opt q128 (zg x.live.toNat)++([]:List UInt8)))):=zzH (by rw [HK.out,zzq6 (by omega)];rfl)
          exact zz64
      case rest=>
       obtain⟨p,HP,hpl,HWp,HBp,HSp⟩:=hcut;have hcR:wc.cell? ⟨R,0,none⟩=some (.int .i64 (h:Nat)):=by rw [zzq2 _ _ _ _ _ _ (HSp.out _ _ _ _ HRa.out (by decide) (by decide))];rfl
       go_upto_if 149 with fail;clear hcR;go_cut [] (fun wx=> ∃p:List UInt8,Hid (W=p++(opt q128 (zg x.live.toNat)++([]:List UInt8)))/\p.length<=l.length+350110/\Hid (WrAt w0.heap.size r p wx)/\Hid (Below w0.heap.size Wa wx)/\Hid (Stays Wa wx))
       case first=>
        cases q64 with
        |false=>
         exact zz63
        |true=>
         have hxc:=HX.out.below (HXa.out.trans HBp.out);have k4:=hxc.c4;have hbl2:=hxc.lt;clear hxc;have hal:=zE x.to.toNat;go_wp2_with (go_at_call 27;refine(zbD w0.heap.size r p x.to _ HWp.out HW.out.to0 (Int.le_trans HW.out.to1 (by decide)) (by omega)).mono ?_;rintro e w2 ⟨rfl,h2,hb2,hs2⟩);go_meet
         case rel=>exact⟨p++zg x.to.toNat,zzH (by rw [HP.out,zeA];rw [zzq4]),by(try simp only [zzq1]);omega,(zzH h2),(zzH (HBp.out.trans hb2)),(zzH (HSp.out.trans hs2))⟩
       case rest=>
        obtain⟨p,HP,hpl,HWp,HBp,HSp⟩:=hcut;have hcR:wc.cell? ⟨R,0,none⟩=some (.int .i64 (h:Nat)):=by rw [zzq2 _ _ _ _ _ _ (HSp.out _ _ _ _ HRa.out (by decide) (by decide))];rfl
        go_upto_if 159 with fail;clear hcR
        cases q128 with
        |false=>
         go_wp2_with fail;go_end0;exact⟨rfl,by have h:=HP.out;rw [zr8,List.append_nil]at h;rw [HWW.out,h];exact HWp.out,(HWa.out.mono HBB.out).trans HBp.out,HSa.out.trans HSp.out⟩
        |true=>
         have hxc:=HX.out.below (HXa.out.trans HBp.out);have k6:=hxc.c6;have hbl2:=hxc.lt;clear hxc;have hal:=zE x.live.toNat;go_wp2_with (go_at_call 27;refine(zbD w0.heap.size r p x.live _ HWp.out HW.out.live0 (Int.le_trans HW.out.live1 (by decide)) (by omega)).mono ?_;rintro e w2 ⟨rfl,h2,hb2,hs2⟩);go_end0;exact⟨rfl,by have h:=HP.out;rw [zeA,List.append_nil]at h;rw [HWW.out,h];exact(zzH h2).out,(HWa.out.mono HBB.out).trans (zzH (HBp.out.trans hb2)).out,HSa.out.trans (zzH (HSp.out.trans hs2)).out⟩
def beN:Nat->Int->List UInt8
 |0,_=>[]
 |k+1,n=>UInt8.ofNat (n/2^(8*k)%256).toNat::beN k n
def leN:Nat->Nat->List UInt8
 |0,_=>[]
 |f+1,u=>if u=0 then []else UInt8.ofNat u::leN f (u/256)
def zN (s:ByteArray):List UInt8:=119::UInt8.ofNat s.size::s.data.toList
def zgV (n:Int):List UInt8:=110::UInt8.ofNat (leN 8 n.natAbs).length::(if n<0 then 1 else 0)::leN 8 n.natAbs
def zb9 (n:Int):List UInt8:=if 0<=n/\n<=255 then [97,UInt8.ofNat n.toNat]else if -2147483648<=n/\n<=2147483647 then 98::beN 4 n else zgV n
def zH (t:Tm):List UInt8:=
 if t.kind=1 then zb9 t.int
 else if t.kind=2 then zN t.name
 else if t.kind=3 then 90::0::1::(zN t.name++(beN 4 t.gen++beN 4 t.int))
 else if t.kind=4 then 112::UInt8.ofNat t.arity.toNat::(beN 2 t.int++(UInt8.ofNat t.items.length::(zN t.name++beN 4 t.gen)))
 else if t.kind=5 then 113::(zN t.name++(zN t.func++zb9 t.arity))
 else if t.kind=6 then 88::(zN t.name++(beN 4 t.int++(beN 4 0++beN 4 t.gen)))
 else if t.kind=7 then [104,UInt8.ofNat t.items.length]
 else if t.kind=8 then [106]
 else if t.kind=9 then 108::beN 4 ((t.items.length:Int)-1)
 else if t.kind=10 then(if t.bits%8=0 then 109::(beN 4 t.bytes.size++t.bytes.data.toList)else 77::(beN 4 t.bytes.size++(UInt8.ofNat (t.bits%8).toNat::t.bytes.data.toList)))
 else []
def zV:Nat->Tm->List UInt8
 |0,_=>[]
 |f+1,t=>zH t++t.items.flatMap (zV f)
def zfN (f:Nat) (t:Tm):List UInt8:=131::zV f t
theorem zk: ∀(k:Nat) (n:Int),(beN k n).length=k
 |0,_=>rfl
 |k+1,n=>by show(beN k n).length+1=k+1;rw [zk k n]
theorem ziH: ∀(f n:Nat),(leN f n).length<=f
 |0,_=>zzL _
 |f+1,n=>by
  unfold leN;split
  ·simp
  ·have:=ziH f (n/256);simp;omega
theorem zn (s:ByteArray):(zN s).length=s.size+2:=by
 show s.data.toList.length+2=s.size+2;rw [Array.length_toList];rfl
theorem zhM (n:Int):(zb9 n).length<=11:=by
 unfold zb9;split
 ·simp
 ·split
  ·have:=zk 4 n;simp;omega
  ·have:=ziH 8 n.natAbs;unfold zgV;simp;omega
theorem zbs {s:ByteArray} (h:zB s=true):s.size<=32:=by
 unfold zB at h;rw [Bool.and_eq_true,Bool.and_eq_true,decide_eq_true_eq,decide_eq_true_eq]at h;exact h.1.2
theorem zff {n a b:Int} (h:wi n a b=true):a<=n/\n<=b:=by
 exact zz55
theorem zgQ {y:ByteArray} {z:Int} (h:zcz y z=true):0<=z/\z<=16384/\(y.size:Int)=(z+7)/8:=by
 unfold zcz at h;rw [Bool.and_eq_true,Bool.and_eq_true,decide_eq_true_eq]at h;have:=zff h.1.1;exact⟨this.1,this.2,h.1.2⟩
theorem zg9 {t:Tm} (h:okK t=true):(zH t).length<=2200/\1<=zbc t:=by
 by_cases h1:t.kind=1
 ·unfold zH zbc;have:=zhM t.int;simp [h1];omega
 by_cases h2:t.kind=2
 ·have hn:zB t.name=true:=by unfold okK at h;simpa [h2] using h
  have:=zbs hn;have:=zn t.name;unfold zH zbc;simp [h2];omega
 by_cases h3:t.kind=3
 ·have hn:zB t.name=true:=by unfold okK at h;simp [h3]at h;exact h.2
  have:=zbs hn;have:=zn t.name;have:=zk 4 t.gen;have:=zk 4 t.int;unfold zH zbc;simp [h3];omega
 by_cases h4:t.kind=4
 ·have hn:zB t.name=true:=by unfold okK at h;simp [h4]at h;exact h.1.1.2
  have:=zbs hn;have:=zn t.name;have:=zk 4 t.gen;have:=zk 2 t.int;unfold zH zbc;simp [h4];omega
 by_cases h5:t.kind=5
 ·have hn:zB t.name=true/\zB t.func=true:=by unfold okK at h;simp [h5]at h;exact h.1
  have:=zbs hn.1;have:=zbs hn.2;have:=zn t.name;have:=zn t.func;have:=zhM t.arity;unfold zH zbc;simp [h5];omega
 by_cases h6:t.kind=6
 ·have hn:zB t.name=true:=by unfold okK at h;simp [h6]at h;exact h.2
  have:=zbs hn;have:=zn t.name;have:=zk 4 t.gen;have:=zk 4 t.int;have:=zk 4 0;unfold zH zbc;simp [h6];omega
 by_cases h7:t.kind=7
 ·unfold zH zbc;simp [h7]
 by_cases h8:t.kind=8
 ·unfold zH zbc;simp [h8]
 by_cases h9:t.kind=9
 ·have hn:2<=t.items.length:=by unfold okK at h;simp [h9]at h;exact h.1
  have:=zk 4 ((t.items.length:Int)-1);unfold zH zbc;simp [h9];omega
 by_cases h10:t.kind=10
 ·have hn:zcz t.bytes t.bits=true:=by unfold okK at h;simp [h10]at h;exact h
  obtain⟨b0,b1,b2⟩:=zgQ hn;have hl:t.bytes.data.toList.length=t.bytes.size:=by rw [Array.length_toList];rfl
  have:=zk 4 (t.bytes.size:Int);unfold zH zbc;rw [if_neg h1,if_neg h2,if_neg h3,if_neg h4,if_neg h5,if_neg h6,if_neg h7,if_neg h8,if_neg h9,if_pos h10,if_neg h9,if_pos h10];refine⟨?_,by omega⟩;split<;>(simp only [zzq13,zzq1];omega)
 exact absurd h (by rw [ze3 (by omega)];decide)
theorem ziQ: ∀(f:Nat) (t:Tm),zj f t=true->((zV f t).length:Int)<=2200*zx f t
 |0,_,h=>by cases h
 |f+1,t,h=>by
  have hl:zcH t=true/\t.items.all (zj f)=true:=by unfold zj at h;rwa [Bool.and_eq_true]at h
  have h1:okK t=true:=by have:=hl.1;unfold zcH at this;rw [Bool.and_eq_true]at this;exact this.1
  have hh:=zg9 h1
  have hi: ∀(l:List Tm),l.all (zj f)=true->((l.flatMap (zV f)).length:Int)<=2200*zbP (l.map (zx f)):=by
   intro l
   induction l with
   |nil=>intro _;simp [zbP]
   |cons a l ih=>
    intro ha;rw [List.all_cons,Bool.and_eq_true]at ha;have e1:=ziQ f a ha.1;have e2:=ih ha.2;simp only [List.flatMap_cons,zzq1,List.map_cons,zbP];omega
  have:=hi t.items hl.2;show(((zH t++t.items.flatMap (zV f)).length:Nat):Int)<=2200*(zbc t+zbP (t.items.map (zx f)));rw [zzq1];omega
theorem zhE {f:Nat} {t:Tm} (h:zD f t=true):(zfN f t).length<=4400001:=by
 unfold zD at h;rw [Bool.and_eq_true,decide_eq_true_eq]at h;have:=ziQ f t h.1;show(zV f t).length+1<=_;omega
def RdAt (r:Nat) (s:ByteArray) (at' p:Nat) (w:World):Prop:=w.heap[r]?=some (.cells #[.string s,.int .i64 at',.int .i64 p] 157 (0,0))
abbrev refused:Ending:=.panicked [{v:=.iface 153 (.agg #[]),recovered:=false}]
theorem RdAt.lt {r:Nat} {s:ByteArray} {a p:Nat} {w:World} (h:RdAt r s a p w):r<w.heap.size:=zc h
theorem RdAt.cells {r:Nat} {s:ByteArray} {a p:Nat} {w:World} (h:RdAt r s a p w):w.cell? ⟨r,0,none⟩=some (.string s)/\w.cell? ⟨r,1,none⟩=some (.int .i64 a)/\w.cell? ⟨r,2,none⟩=some (.int .i64 p)/\w.frozen? ⟨r,1,none⟩=false/\w.frozen? ⟨r,2,none⟩=false:=by
 have hc:=fun j=>zzq2 w r j _ _ _ h
 exact⟨hc 0,hc 1,hc 2,Lib.frozen_of_heap h 1,Lib.frozen_of_heap h 2⟩
theorem RdAt.below {r:Nat} {s:ByteArray} {a p:Nat} {w w':World} (h:RdAt r s a p w) (hb:Below w.heap.size w w'):RdAt r s a p w':=(hb.block r h.lt).trans h
theorem zbg (v:Value) (w:World):Calls Tryz.prog 90 #[v,.bool true] w fun e w'=>e= .returned (.tuple #[])/\w=w':=by
 go_in;go_wp2;go_end0;exact⟨rfl,rfl⟩
theorem zcC (v:Value) (w:World):Calls Tryz.prog 90 #[v,.bool false] w fun e w'=>e=refused/\w=w':=by
 go_in;go_wp2;exact⟨rfl,rfl,rfl⟩
theorem zkz (r:Nat) (s:ByteArray) (a p n:Nat) (w:World) (h:RdAt r s a p w) (hn:a+n<=s.size) (hs:s.size<=9223372036854775807):
  Calls Tryz.prog 116 #[.pointer (some ⟨r,0,none⟩),.int .i64 n] w fun e w'=>e= .returned (.string (s.extract a (a+n)))/\RdAt r s (a+n) p w'/\w.grownBy w' (some r):=by
 obtain⟨c0,c1,c2,f1,f2⟩:=h.cells;have hr:=h.lt;have hle:decide ((n:Int)<=(s.size:Int)-(a:Int))=true:=zzT (by omega);have hw1:IntKind.i64.wrap ((s.size:Int)-(a:Int))=(s.size:Int)-(a:Int):=by rw [zzq3];omega
 go_in;go_wp2_with fail;go_quiet ((go_at_call 90;exact Calls.quiet_of_same ((zbg _ _).mono fun _ _ ⟨a,b⟩=>⟨a,b.symm⟩)));go_upto_region 3 with fail
 have hq:RdAt r s (a+n) p ((w.drewN nq).setCell ⟨r,1,none⟩ (.int .i64 ((a:Int)+(n:Int)))):=by
  have:=zzS (w.drewN nq) r 1 _ _ (.int .i64 ((a:Int)+(n:Int))) h;refine this.trans ?_;rw [show((a:Int)+(n:Int))=((a+n:Nat):Int)by omega];rfl
 have hg:w.grownBy ((w.drewN nq).setCell ⟨r,1,none⟩ (.int .i64 ((a:Int)+(n:Int)))) (some r):=zh (zdm (zb5 w (some r)) nq) (zG _ r 1 _);have HQ:=zzH hq;have HG:=zzH hg;obtain⟨d0,d1,d2,-,-⟩:=hq.cells;have hrl:=hq.lt;clear hq hg c0 c1 c2 f1 f2 hr hle hw1;generalize(w.drewN nq).setCell ⟨r,1,none⟩ (.int .i64 ((a:Int)+(n:Int)))=W at *;have hw2:IntKind.i64.wrap (((a+n:Nat):Int)-(n:Int))=(a:Int):=by rw [zzq3];omega
 have h1:((a+n:Nat):Int)<=(s.size:Int):=by omega
 have h2:(a:Int)<=((a+n:Nat):Int):=by omega
 generalize hb:a+n=b at *;have HBE:=zzH hb;clear hb hn;go_quiet (fail);go_wp2_with fail;go_ret;exact⟨congrArg (fun z=>Ending.returned (.string (s.extract a z))) HBE.out.symm,by rw [HBE.out];exact HQ.out,zdm HG.out _⟩
theorem zlJ (r:Nat) (s:ByteArray) (a p n:Nat) (w:World) (h:RdAt r s a p w) (ha:a<=s.size) (hn:s.size<a+n) (hn2:n<=9223372036854775807) (hs:s.size<=9223372036854775807):
  Calls Tryz.prog 116 #[.pointer (some ⟨r,0,none⟩),.int .i64 n] w fun e w'=>e=refused/\w.grownBy w' (some r):=by
 obtain⟨c0,c1,c2,f1,f2⟩:=h.cells;have hr:=h.lt;have hle:decide ((n:Int)<=(s.size:Int)-(a:Int))=false:=zzD (by omega);have hw1:IntKind.i64.wrap ((s.size:Int)-(a:Int))=(s.size:Int)-(a:Int):=by rw [zzq3];omega
 have HK:=zzH (zbl (zzR w.heap.size w).drew);have HG:Hid (w.grownBy w.drew (some r)):=zzH (zfH (zb5 w _));go_in;go_wp2_with fail;go_region_dies
 all_goals(go_wp2_with (go_at_call 90;refine(zcC _ _).mono ?_;rintro e w1 ⟨rfl,rfl⟩))
 all_goals exact⟨rfl,rfl,HG.out⟩
def beV (l:List UInt8):Nat:=l.foldl (fun n c=>256*n+c.toNat) 0
theorem zkh (l:List UInt8) (c:UInt8):beV (l++ [c])=256*beV l+c.toNat:=by
 unfold beV;rw [List.foldl_append];rfl
def zsD (B:Nat) (l:List UInt8) (w:World):Prop:= ∀j (h:j<l.length),w.cell? ⟨B,j,none⟩=some (.int .u8 (l[j].toNat:Int))
theorem zmo (s:ByteArray) (w:World): ∃cap W1,(convert 9 74 (.string s)).run Tryz.prog w= .ok (.slice (some ⟨w.heap.size,0,none⟩) s.size cap) W1/\zsD w.heap.size s.data.toList W1/\Below w.heap.size w W1/\w.heap.size<W1.heap.size:=by
 refine⟨_,_,Go.Lib.run_convert_string_bytes w _ _ _ s Tryz.underlying9 Tryz.underlying74 Tryz.underlying5,?_,?_,?_⟩
 ·intro j hj
  have hj2:j<s.size:=hj;rw [Lib.bytesWorld_cell w _ s j hj2];simp [List.getD,hj2]
 ·exact⟨rfl,rfl,rfl,by rw [Lib.bytesWorld_size];omega,fun k hk=>Lib.bytesWorld_at_old w _ s k hk⟩
 ·rw [Lib.bytesWorld_size];omega
theorem zpg {s:ByteArray} {a k:Nat} (hn:a+k<=s.size):((s.data.toList.drop a).take k).length=k:=by
 rw [List.length_take,List.length_drop,Array.length_toList];change min k (s.size-a)=k;omega
theorem zfS (s:ByteArray) (a k:Nat):(s.extract a (a+k)).data.toList=(s.data.toList.drop a).take k:=by
 rw [ByteArray.data_extract,Array.toList_extract,List.extract_eq_take_drop,Nat.add_sub_cancel_left]
theorem zo2 {s:ByteArray} {a k:Nat} (hn:a+k<=s.size):(s.extract a (a+k)).size=k:=by
 rw [ByteArray.size_extract];omega
theorem zoV: ∀(l:List UInt8) (n:Nat),l.foldl (fun n c=>256*n+c.toNat) n<(n+1)*256^l.length
 |[],n=>by simp
 |c::l,n=>by
  have h:=zoV l (256*n+c.toNat);have hc:=c.toNat_lt;refine zzW h ?_;rw [zzq13,Nat.pow_succ,Nat.mul_comm (256^l.length) 256,<-Nat.mul_assoc];exact Nat.mul_le_mul_right _ (by omega)
theorem zgi (l:List UInt8):beV l<256^l.length:=by have:=zoV l 0;rw [Nat.zero_add,Nat.one_mul]at this;exact this
theorem zsc (a b:Nat) (ha:a<9223372036854775808) (hb:b<9223372036854775808):bits .or .i64 (a:Int) (b:Int)=((a |||b:Nat):Int):=by
 have hx:a |||b<2^63:=Nat.or_lt_two_pow (by omega) (by omega)
 have h1:(BitVec.ofInt 64 (a:Int)).toNat=a:=by
  exact zz7
 have h2:(BitVec.ofInt 64 (b:Int)).toNat=b:=by
  exact zz7
 show IntKind.i64.wrap ((BitVec.ofInt 64 (a:Int) |||BitVec.ofInt 64 (b:Int)).toNat:Int)=_;rw [BitVec.toNat_or,h1,h2,zzq3];omega
theorem zsh (n c:Nat) (hn:n<16777216) (hc:c<256):bits .or .i64 ((n:Int)*256) (c:Int)=((256*n+c:Nat):Int):=by
 rw [show((n:Int)*256)=((256*n:Nat):Int)by omega,zsc _ _ (by omega) (by omega)];exact zz66
theorem zim (r:Nat) (s:ByteArray) (a p k:Nat) (w:World) (h:RdAt r s a p w) (hn:a+k<=s.size) (hs:s.size<=9223372036854775807) (hk:k<=4):
  Calls Tryz.prog 114 #[.pointer (some ⟨r,0,none⟩),.int .i64 k] w fun e w'=>e= .returned (.int .i64 (beV ((s.data.toList.drop a).take k)))/\RdAt r s (a+k) p w'/\w.grownBy w' (some r):=by
 have hsz:=zo2 hn;have hll:=zfS s a k;have hlen:=zpg (s:=s) hn;generalize(s.data.toList.drop a).take k=l at *;go_in;go_wp2_with (go_at_call 116;refine(zkz r s a p k _ h hn hs).mono ?_;rintro e w1 ⟨rfl,hr1,hg1⟩;obtain⟨cap,W1,hcv,hB,hb,hlt⟩:=zmo (s.extract a (a+k)) w1);rw [hll]at hB;have HR:=zzH (hr1.below hb);have HG:Hid (w.grownBy W1 (some r)):=zzH (zh hg1 (zbf hb _));clear h hr1 hg1 hb hll hsz hcv;have HB:=zzH hB;clear hB;generalize w1.heap.size=g at *;clear hlt;go_loop [5,13] (fun n i=> ∃j:Nat,j<=k/\i= .int .i64 j/\n= .int .i64 (beV (l.take j))) (fun _ i=>k-(intOf i).toNat)
 case atStart=>exact⟨0,zzZ _,rfl,rfl⟩
 case round=>
  obtain⟨j,hj,rfl,rfl⟩:=hrel;by_cases hlt:j<k
  ·have hjl:j<l.length:=by omega
   have hc:=HB.out j hjl;have hv:Hid (beV (l.take (j+1))=256*beV (l.take j)+(l[j]'hjl).toNat):=zzH (by rw [List.take_succ_eq_append_getElem hjl,zkh])
   have hm:beV (l.take j)<16777216:=by
    have:=zgi (l.take j);rw [List.length_take]at this;refine zzW this ?_;exact Nat.pow_le_pow_right (by omega) (show min j l.length<=3 by omega)
   have hcl:=(l[j]'hjl).toNat_lt;generalize(l[j]'hjl).toNat=c at *;generalize beV (l.take j)=n at *;have HO:=zzH (zsh n c hm (by omega));go_wp2;go_round
   case rel=>exact⟨j+1,by omega,by go_num,by rw [HO.out,hv.out]⟩
   case measure=>simp [intOf];omega
  ·have hj2:j=k:=by omega
   have ht:Hid (beV (l.take j)=beV l):=zzH (by rw [List.take_of_length_le (by omega)]);go_wp2;go_ret;exact⟨congrArg (fun z:Nat=>Ending.returned (.int .i64 (z:Int))) (by rw [<-hj2];exact ht.out),HR.out,HG.out⟩
theorem ziM (r:Nat) (s:ByteArray) (a p k:Nat) (w:World) (h:RdAt r s a p w) (ha:a<=s.size) (hn:s.size<a+k) (hs:s.size<=9223372036854775807) (hk:k<=4):
  Calls Tryz.prog 114 #[.pointer (some ⟨r,0,none⟩),.int .i64 k] w fun e w'=>e=refused/\w.grownBy w' (some r):=by
 go_in;go_wp2_with (go_at_call 116;refine(zlJ r s a p k _ h ha hn (by omega) hs).mono ?_;rintro e w1 ⟨rfl,hg1⟩);exact⟨rfl,rfl,hg1⟩
theorem drop_one {s:ByteArray} {a:Nat} {c:UInt8} {l:List UInt8} (h:s.data.toList.drop a=c::l):a+1<=s.size/\s.data.toList.drop (a+1)=l/\beV ((s.data.toList.drop a).take 1)=c.toNat:=by
 have hl:(s.data.toList.drop a).length=l.length+1:=by rw [h];rfl
 rw [List.length_drop,Array.length_toList]at hl;change s.size-a=l.length+1 at hl;refine⟨by omega,?_,?_⟩
 ·rw [<-List.drop_drop,h];rfl
 ·rw [h];simp [beV]
theorem zpy {s:ByteArray} {a:Nat} (h:s.data.toList.drop a= []):s.size<a+1:=by
 have hl:(s.data.toList.drop a).length=0:=by rw [h];rfl
 rw [List.length_drop,Array.length_toList]at hl;change s.size-a=0 at hl;omega
theorem zjC (r:Nat) (s:ByteArray) (a p:Nat) (c:UInt8) (l:List UInt8) (w:World) (h:RdAt r s a p w) (hn:s.data.toList.drop a=c::l) (hs:s.size<=9223372036854775807):
  Calls Tryz.prog 112 #[.pointer (some ⟨r,0,none⟩)] w fun e w'=>e= .returned (.int .i64 c.toNat)/\RdAt r s (a+1) p w'/\w.grownBy w' (some r):=by
 have hd:=drop_one hn;generalize c.toNat=n at *;go_in;go_wp2_with (go_at_call 114;refine(zim r s a p 1 _ h hd.1 hs (by omega)).mono ?_;rintro e w1 ⟨rfl,hr1,hg1⟩);go_ret;exact⟨congrArg (fun z:Nat=>Ending.returned (.int .i64 (z:Int))) (by have h9:=hd.2.2;rw [hn]at h9;exact h9),hr1,hg1⟩
theorem zri (r:Nat) (s:ByteArray) (a p:Nat) (w:World) (h:RdAt r s a p w) (ha:a<=s.size) (hn:s.data.toList.drop a= []) (hs:s.size<=9223372036854775807):
  Calls Tryz.prog 112 #[.pointer (some ⟨r,0,none⟩)] w fun e w'=>e=refused/\w.grownBy w' (some r):=by
 have hd:=zpy hn;go_in;go_wp2_with (go_at_call 114;refine(ziM r s a p 1 _ h ha hd hs (by omega)).mono ?_;rintro e w1 ⟨rfl,hg1⟩);exact⟨rfl,rfl,hg1⟩
def RdL (r:Nat) (s:ByteArray) (l:List UInt8) (p:Nat) (w:World):Prop:= ∃a:Nat,RdAt r s a p w/\a<=s.size/\s.data.toList.drop a=l/\s.size<=9223372036854775807
theorem RdL.lt {r:Nat} {s:ByteArray} {l:List UInt8} {p:Nat} {w:World} (h:RdL r s l p w):r<w.heap.size:=by obtain⟨a,h,-⟩:=h;exact h.lt
theorem RdL.below {r:Nat} {s:ByteArray} {l:List UInt8} {p:Nat} {w w':World} (h:RdL r s l p w) (hb:Below w.heap.size w w'):RdL r s l p w':=by
 obtain⟨a,h,h2⟩:=h;exact⟨a,h.below hb,h2⟩
theorem zdy {s:ByteArray} {a:Nat} {l:List UInt8} (ha:a<=s.size) (h:s.data.toList.drop a=l):a+l.length=s.size:=by
 rw [<-h,List.length_drop,Array.length_toList];change a+(s.size-a)=s.size;omega
def zeW {α:Type} (r:Nat) (s:ByteArray) (p:Nat) (w:World) (val:α->Value) (d:Option (α × List UInt8)) (e:Ending) (w':World):Prop:=
 match d with
 |none=>e=refused/\w.grownBy w' (some r)
 |some (v,l)=>e= .returned (val v)/\RdL r s l p w'/\w.grownBy w' (some r)
def zci (k:Nat) (l:List UInt8):Option (ByteArray × List UInt8):=if k<=l.length then some (⟨(l.take k).toArray⟩,l.drop k)else none
def zbF (k:Nat) (l:List UInt8):Option (Nat × List UInt8):=if k<=l.length then some (beV (l.take k),l.drop k)else none
def zK (l:List UInt8):Option (Nat × List UInt8):=match l with|[]=>none|c::l=>some (c.toNat,l)
def zcc (l:List UInt8):Option (ByteArray × List UInt8):=(zK l).bind fun x=>if x.1=119 then(zK x.2).bind fun y=>zci y.1 y.2 else none
theorem zgT (r:Nat) (s:ByteArray) (l:List UInt8) (p k:Nat) (w:World) (h:RdL r s l p w) (hk:k<=9223372036854775807):
  Calls Tryz.prog 116 #[.pointer (some ⟨r,0,none⟩),.int .i64 k] w (zeW r s p w Value.string (zci k l)):=by
 obtain⟨a,h,ha,hl,hs⟩:=h;have hn:=zdy ha hl;by_cases c:k<=l.length
 ·rw [show zci k l=some (⟨(l.take k).toArray⟩,l.drop k)from if_pos c]
  refine(zkz r s a p k w h (by omega) hs).mono ?_;rintro e w' ⟨rfl,hr,hg⟩;refine⟨congrArg (fun z=>Ending.returned (.string z)) ?_,⟨a+k,hr,by omega,by rw [<-hl,List.drop_drop],hs⟩,hg⟩;apply ByteArray.ext;apply Array.ext';rw [zfS,hl]
 ·rw [show zci k l=none from if_neg c]
  exact zlJ r s a p k w h ha (by omega) hk hs
theorem zc0 (r:Nat) (s:ByteArray) (l:List UInt8) (p k:Nat) (w:World) (h:RdL r s l p w) (hk:k<=4):
  Calls Tryz.prog 114 #[.pointer (some ⟨r,0,none⟩),.int .i64 k] w (zeW r s p w (fun n:Nat=>Value.int .i64 n) (zbF k l)):=by
 obtain⟨a,h,ha,hl,hs⟩:=h;have hn:=zdy ha hl;by_cases c:k<=l.length
 ·rw [show zbF k l=some (beV (l.take k),l.drop k)from if_pos c]
  refine(zim r s a p k w h (by omega) hs hk).mono ?_;rintro e w' ⟨rfl,hr,hg⟩;exact⟨by rw [hl],⟨a+k,hr,by omega,by rw [<-hl,List.drop_drop],hs⟩,hg⟩
 ·rw [show zbF k l=none from if_neg c]
  exact ziM r s a p k w h ha (by omega) hs hk
theorem zbU (r:Nat) (s:ByteArray) (l:List UInt8) (p:Nat) (w:World) (h:RdL r s l p w):
  Calls Tryz.prog 112 #[.pointer (some ⟨r,0,none⟩)] w (zeW r s p w (fun n:Nat=>Value.int .i64 n) (zK l)):=by
 obtain⟨a,h,ha,hl,hs⟩:=h
 cases l with
 |nil=>exact zri r s a p w h ha hl hs
 |cons c l=>
  refine(zjC r s a p c l w h hl hs).mono ?_;rintro e w' ⟨rfl,hr,hg⟩;have:=zdy ha hl;exact⟨rfl,⟨a+1,hr,by rw [zzq13]at this;omega,(drop_one hl).2.1,hs⟩,hg⟩
theorem zgE {l:List UInt8} {x:Nat × List UInt8} (h:zK l=some x):x.1<256:=by
 cases l with
 |nil=>exact absurd h (by simp [zK])
 |cons c l=>simp only [zK,Option.some.injEq]at h;rw [<-h];exact c.toNat_lt
theorem zg3 (r:Nat) (s:ByteArray) (l:List UInt8) (p:Nat) (w:World) (h:RdL r s l p w):
  Calls Tryz.prog 119 #[.pointer (some ⟨r,0,none⟩)] w (zeW r s p w Value.string (zcc l)):=by
 have HP:Hid (zeW r s p w Value.string (zcc l)=zeW r s p w Value.string (zcc l)):=zzH rfl;generalize hQ:zeW r s p w Value.string (zcc l)=Q at *;have HQ:=zzH hQ;clear HP hQ;have HD:Hid (zcc l=(zK l).bind fun x=>if x.1=119 then(zK x.2).bind fun y=>zci y.1 y.2 else none):=zzH rfl;have hb:=zbU r s l p w h;have HB:=zzH hb;clear hb;go_in;rcases hx:zK l with _|⟨n,l1⟩
 ·exact zz68
 ·rw [hx]at HB HD
  by_cases c:n=119
  ·subst c
   go_wp2_with (go_at_call 112;refine HB.out.mono ?_;rintro e w1 ⟨rfl,hr,hg⟩);rw [zzq0,if_pos rfl]at HD;go_wp2_with (go_at_call 90;refine(zbg _ _).mono ?_;rintro e w2 ⟨rfl,rfl⟩);have HB1:=zzH (zbU r s l1 p _ hr);rcases hy:zK l1 with _|⟨m,l2⟩
   ·exact zz67
   ·rw [hy]at HB1 HD
    have hm:m<256:=zgE hy;go_wp2_with (go_at_call 112;refine HB1.out.mono ?_;rintro e w2 ⟨rfl,hr2,hg2⟩);have HB2:=zzH (zgT r s l2 p m _ hr2 (by omega));rw [zzq0]at HD;rcases hz:zci m l2 with _|⟨b,l3⟩
    ·rw [hz]at HB2
     go_wp2_with (go_at_call 116;refine HB2.out.mono ?_;rintro e w3 ⟨rfl,hg3⟩);exact⟨rfl,by rw [<-HQ.out,HD.out,hz];exact⟨rfl,zh hg (zh hg2 hg3)⟩⟩
    ·rw [hz]at HB2
     go_wp2_with (go_at_call 116;refine HB2.out.mono ?_;rintro e w3 ⟨rfl,hr3,hg3⟩);rw [<-HQ.out,HD.out,hz];exact⟨rfl,hr3,zh hg (zh hg2 hg3)⟩
  ·rw [zzq0,if_neg c]at HD
   have hne:((n:Int)==119)=false:=zzB.2 (by omega);go_wp2_with (go_at_call 112;refine HB.out.mono ?_;rintro e w1 ⟨rfl,hr,hg⟩);go_wp2_with (go_at_call 90;refine(zcC _ _).mono ?_;rintro e w2 ⟨rfl,rfl⟩);exact⟨rfl,by rw [<-HQ.out,HD.out];exact⟨rfl,hg⟩⟩
def leV:List UInt8->Nat
 |[]=>0
 |c::l=>256*leV l+c.toNat
def zd9 (sg:Nat) (b:ByteArray):Option Int:=
 if b.data.toList.getD (b.size-1) 0=0 then none
 else if sg=1 then(if leV b.data.toList<=9223372036854775808/\2147483648<leV b.data.toList then some (-(leV b.data.toList:Int))else none)
 else if leV b.data.toList<9223372036854775808/\2147483648<=leV b.data.toList then some (leV b.data.toList)else none
def zdp (l:List UInt8):Option (Int × List UInt8):=(zK l).bind fun x=>(zK x.2).bind fun y=>if 4<=x.1/\x.1<=8/\y.1<=1 then(zci x.1 y.2).bind fun z=>(zd9 y.1 z.1).bind fun v=>some (v,z.2)else none
theorem zii: ∀l:List UInt8,leV l<256^l.length
 |[]=>by simp [leV]
 |c::l=>by
  have h:=zii l;have hc:=c.toNat_lt;rw [zzq13,Nat.pow_succ];unfold leV;omega
theorem zg0 {k:Nat} {l:List UInt8} {b:ByteArray} {l2:List UInt8} (h:zci k l=some (b,l2)):b.size=k:=by
 unfold zci at h;split at h
 ·next c=>
  simp only [zzX1]at h;rw [<-h.1];show(l.take k).toArray.size=k;rw [List.size_toArray,List.length_take];omega
 ·exact zz69
theorem zpO (n c:Nat) (hn:n<72057594037927936) (hc:c<256):bits .or .u64 ((n:Int)*256) (c:Int)=((256*n+c:Nat):Int):=by
 rw [show((n:Int)*256)=((256*n:Nat):Int)by omega,bits_or_u64_nat _ _ (by omega) (by omega)];exact zz66
theorem zkj {l:List UInt8} {j:Nat} (h:j<l.length):leV (l.drop j)=256*leV (l.drop (j+1))+(l[j]).toNat:=by
 rw [List.drop_eq_getElem_cons h];rfl
theorem znO {l:List UInt8} {j n:Nat} (h:l.length<=8) (hj:0<j):leV (l.drop j)<72057594037927936:=by
 have:=zii (l.drop j);rw [List.length_drop]at this;refine zzW this ?_;exact Nat.pow_le_pow_right (by omega) (show l.length-j<=7 by omega)
theorem zqH (u:Nat) (h:u<=9223372036854775808) (h0:0<u):wrap64 (IntKind.u64.wrap (-(u:Int)))= -(u:Int):=by
 rw [IntKind.wrap_u64];unfold wrap64;omega
theorem zrb (r:Nat) (s:ByteArray) (l:List UInt8) (p:Nat) (w:World) (h:RdL r s l p w):
  Calls Tryz.prog 115 #[.pointer (some ⟨r,0,none⟩)] w (zeW r s p w (fun n:Int=>Value.int .i64 n) (zdp l)):=by
 generalize hQ:zeW r s p w (fun n:Int=>Value.int .i64 n) (zdp l)=Q at *;have HQ:=zzH hQ;clear hQ;have HD:Hid (zdp l=(zK l).bind fun x=>(zK x.2).bind fun y=>if 4<=x.1/\x.1<=8/\y.1<=1 then(zci x.1 y.2).bind fun z=>(zd9 y.1 z.1).bind fun v=>some (v,z.2)else none):=zzH rfl;have HB:=zzH (zbU r s l p w h);go_in;rcases hx:zK l with _|⟨n,l1⟩
 ·exact zz68
 rw [hx]at HB HD;rw [zzq0]at HD;have hn:=zgE hx;go_wp2_with (go_at_call 112;refine HB.out.mono ?_;rintro e w1 ⟨rfl,hr,hg⟩);have HB1:=zzH (zbU r s l1 p _ hr);rcases hy:zK l1 with _|⟨m,l2⟩
 ·exact zz67
 rw [hy]at HB1 HD;rw [zzq0]at HD;have hm:=zgE hy;by_cases cc:4<=n/\n<=8/\m<=1
 case neg=>
  rw [if_neg cc]at HD;have HC:=zzH cc;by_cases c1:4<=n
  ·by_cases c2:n<=8
   ·have c3: ¬m<=1:=fun e=>HC.out ⟨c1,c2,e⟩
    have h1:(4:Int)<=(n:Int):=by omega
    have h2:(n:Int)<=8:=by omega
    have h3:decide ((m:Int)<=1)=false:=zzD (by omega);exact zz70
   ·have h1:(4:Int)<=(n:Int):=by omega
    have h2: ¬(n:Int)<=8:=by omega
    exact zz70
  ·have h1: ¬(4:Int)<=(n:Int):=by omega
   exact zz70
 rw [if_pos cc]at HD;obtain⟨c1,c2,c3⟩:=cc;have h1:(4:Int)<=(n:Int):=by omega
 have h2:(n:Int)<=8:=by omega
 have h3:decide ((m:Int)<=1)=true:=zzT (by omega);go_wp2_with (go_at_call 112;refine HB1.out.mono ?_;rintro e w2 ⟨rfl,hr2,hg2⟩);have HG:=zzH (zh hg hg2);have HB2:=zzH (zgT r s l2 p n _ hr2 (by omega));clear hg hg2 hr h HB HB1;go_wp2_with (go_at_call 90;refine(zbg _ _).mono ?_;rintro e w3 ⟨rfl,rfl⟩);rcases hz:zci n l2 with _|⟨b,l3⟩
 ·rw [hz]at HB2 HD
  go_wp2_with (go_at_call 116;refine HB2.out.mono ?_;rintro e w3 ⟨rfl,hg3⟩);exact⟨rfl,by rw [<-HQ.out,HD.out];exact⟨rfl,zh HG.out hg3⟩⟩
 rw [hz]at HB2 HD;rw [zzq0]at HD;have hb:=zg0 hz;go_wp2_with (go_at_call 116;refine HB2.out.mono ?_;rintro e w3 ⟨rfl,hr3,hg3⟩);have hG:=zh HG.out hg3;have HG2:=zzH hG;clear hg3 hG HG HB2;have hidx:n-1<b.size:=by omega
 have hlast:b.data.toList.getD (b.size-1) 0=b[n-1]:=by
  rw [hb];simp only [List.getD,Array.getElem?_toList];rw [show b.data[n-1]?=some (b[n-1])from Array.getElem?_eq_getElem hidx];rfl
 have HL:=zzH hlast;clear hlast;by_cases c0:b[n-1]=0
 ·have hne:((b[n-1].toNat:Int)!=0)=false:=by rw [c0];rfl
  have HV:Hid (zd9 m b=none):=zzH (if_pos (by rw [HL.out,c0]));rw [hne];go_wp2_with (go_at_call 90;refine(zcC _ _).mono ?_;rintro e w4 ⟨rfl,rfl⟩);exact⟨rfl,by rw [<-HQ.out,HD.out,HV.out];exact⟨rfl,HG2.out⟩⟩
 have hne:((b[n-1].toNat:Int)!=0)=true:=by
  rw [bne_iff_ne];intro e;exact c0 (UInt8.toNat_inj.1 (by rw [show b[n-1].toNat=0 by omega];rfl))
 have HV:Hid (zd9 m b=if m=1 then(if leV b.data.toList<=9223372036854775808/\2147483648<leV b.data.toList then some (-(leV b.data.toList:Int))else none)else if leV b.data.toList<9223372036854775808/\2147483648<=leV b.data.toList then some (leV b.data.toList:Int)else none):=zzH (if_neg (by rw [HL.out];exact c0));rw [HV.out]at HD;clear HV HL c0;rw [hne];go_wp2_with (go_at_call 90;refine(zbg _ _).mono ?_;rintro e w4 ⟨rfl,rfl⟩);clear hne hidx;have hll:b.data.toList.length=n:=by rw [Array.length_toList];exact hb
 go_loop [6,7] (fun u i=> ∃k:Nat,k<=n/\i= .int .i64 ((k:Int)-1)/\u= .int .u64 (leV (b.data.toList.drop k))) (fun _ i=>(intOf i+1).toNat)
 case atStart=>exact⟨n,zzL _,rfl,by rw [List.drop_of_length_le (by omega)];rfl⟩
 case round=>
  obtain⟨k,hk,rfl,rfl⟩:=hrel
  cases k with
  |succ j=>
   have hj:j<b.size:=by omega
   have hjl:j<b.data.toList.length:=by omega
   have HU:Hid (leV (b.data.toList.drop j)=256*leV (b.data.toList.drop (j+1))+(b[j]).toNat):=zzH (zkj hjl);have hu:=znO (l:=b.data.toList) (j:=j+1) (n:=n) (by omega) (by omega);have hcl:=(b[j]).toNat_lt;have hi:((j+1:Nat):Int)-1=(j:Int):=by omega
   have HO:=zzH (zpO (leV (b.data.toList.drop (j+1))) (b[j]).toNat hu (by omega));generalize leV (b.data.toList.drop (j+1))=u at *;rw [hi];go_wp2;go_round
   case rel=>exact⟨j,by omega,by go_num,by rw [HO.out,HU.out]⟩
   case measure=>simp [intOf]
  |zero=>
   have hi:((0:Nat):Int)-1= -1:=rfl;rw [hi,List.drop_zero];have hU:=zii b.data.toList;rw [hll]at hU;have hU2:leV b.data.toList<18446744073709551616:=zzW hU (Nat.pow_le_pow_right (n:=256) (by omega) (show n<=8 by omega));clear hU;generalize leV b.data.toList=U at *;by_cases cm:m=1
   ·subst cm
    rw [if_pos rfl]at HD;by_cases c8:U<=9223372036854775808/\2147483648<U
    ·rw [if_pos c8]at HD
     have h8:((U:Int)<=9223372036854775808):=by omega
     have h9:decide ((U:Int)>2147483648)=true:=zzT (by omega);have HN:=zzH (zqH U c8.1 (by omega));clear c8 hU2;go_wp2_with (go_at_call 90;refine(zbg _ _).mono ?_;rintro e w4 ⟨rfl,rfl⟩);rw [<-HQ.out,HD.out];exact⟨congrArg (fun z:Int=>Ending.returned (.int .i64 z)) HN.out,hr3,HG2.out⟩
    ·rw [if_neg c8]at HD
     by_cases h8:(U:Int)<=9223372036854775808
     ·have h9:decide ((U:Int)>2147483648)=false:=zzD (by omega)
      exact zz71
     ·exact zz71
   ·have hne:((m:Int)==1)=false:=zzB.2 (by omega)
    rw [if_neg cm]at HD;by_cases c8:U<9223372036854775808/\2147483648<=U
    ·rw [if_pos c8]at HD
     have h8:((U:Int)<9223372036854775808):=by omega
     have h9:decide ((U:Int)≥2147483648)=true:=zzT (by omega);clear c8 hU2;go_wp2_with (go_at_call 90;refine(zbg _ _).mono ?_;rintro e w4 ⟨rfl,rfl⟩);rw [<-HQ.out,HD.out];exact⟨rfl,hr3,HG2.out⟩
    ·rw [if_neg c8]at HD
     by_cases h8:(U:Int)<9223372036854775808
     ·have h9:decide ((U:Int)≥2147483648)=false:=zzD (by omega)
      exact zz71
     ·exact zz71
def tmK (k:Int) (int gen:Int:=0) (name func:ByteArray:=⟨#[]⟩) (arity:Int:=0) (items:List Tm:=[]) (bytes:ByteArray:=⟨#[]⟩) (bits:Int:=0):Tm:=.mk k int gen name func arity items bytes bits
def zcb (T:Nat->List UInt8->Option ((Tm × Nat) × List UInt8)):Nat->Nat->List UInt8->Option ((List Tm × Nat) × List UInt8)
 |0,p,l=>some (([],p),l)
 |n+1,p,l=>(T p l).bind fun x=>(zcb T n x.1.2 x.2).bind fun y=>some ((x.1.1::y.1.1,y.1.2),y.2)
def zca (T:Nat->List UInt8->Option ((Tm × Nat) × List UInt8)) (n p:Nat) (l:List UInt8):Option ((List Tm × Nat) × List UInt8):=if n<=2000 then zcb T n p l else none
def zeF (p:Nat) (l:List UInt8):Option ((Tm × Nat) × List UInt8):=
 (zcc l).bind fun x=>(zcc x.2).bind fun y=>(zK y.2).bind fun z=>if z.1=97 then(zK z.2).bind fun q=>some ((tmK 5 (name:=x.1) (func:=y.1) (arity:=q.1),p),q.2)else none
def zd7 (T:Nat->List UInt8->Option ((Tm × Nat) × List UInt8)) (p:Nat) (l:List UInt8):Option ((Tm × Nat) × List UInt8):=
 (zK l).bind fun a=>(zbF 2 a.2).bind fun b=>(zK b.2).bind fun c=>(zcc c.2).bind fun d=>(zbF 4 d.2).bind fun e=>(zca T c.1 p e.2).bind fun q=>
  some ((tmK 4 (int:=b.1) (gen:=e.1) (name:=d.1) (arity:=a.1) (items:=q.1.1),q.1.2),q.2)
def zc3 (T:Nat->List UInt8->Option ((Tm × Nat) × List UInt8)) (p:Nat) (l:List UInt8):Option ((Tm × Nat) × List UInt8):=
 (zK l).bind fun x=>if x.1=113 then zeF p x.2 else if x.1=112 then zd7 T p x.2 else none
def zbZ (n:Nat):Int:=if n<2147483648 then n else(n:Int)-4294967296
def zcZ (T:Nat->List UInt8->Option ((Tm × Nat) × List UInt8)) (p:Nat) (l0:List UInt8) (tag:Nat) (l:List UInt8):Option ((Tm × Nat) × List UInt8):=
 if tag=97 then(zK l).bind fun x=>some ((tmK 1 (int:=x.1),p),x.2)
 else if tag=98 then(zbF 4 l).bind fun x=>if zbZ x.1<0∨255<zbZ x.1 then some ((tmK 1 (int:=zbZ x.1),p),x.2)else none
 else if tag=110 then(zdp l).bind fun x=>some ((tmK 1 (int:=x.1),p),x.2)
 else if tag=119 then(zK l).bind fun x=>(zci x.1 x.2).bind fun y=>some ((tmK 2 (name:=y.1),p),y.2)
 else if tag=104 then(zK l).bind fun x=>(zca T x.1 p x.2).bind fun y=>some ((tmK 7 (items:=y.1.1),y.1.2),y.2)
 else if tag=106 then some ((tmK 8,p),l)
 else if tag=108 then(zbF 4 l).bind fun x=>(zca T (x.1+1) p x.2).bind fun y=>some ((tmK 9 (items:=y.1.1),y.1.2),y.2)
 else if tag=109 then(zbF 4 l).bind fun x=>(zci x.1 x.2).bind fun y=>some ((tmK 10 (bytes:=y.1) (bits:=8*(y.1.size:Int)),p),y.2)
 else if tag=77 then(zbF 4 l).bind fun x=>(zK x.2).bind fun y=>if 0<x.1/\0<y.1/\y.1<8 then(zci x.1 y.2).bind fun z=>some ((tmK 10 (bytes:=z.1) (bits:=8*((x.1:Int)-1)+y.1),p),z.2)else none
 else if tag=88 then(zcc l).bind fun x=>(zbF 4 x.2).bind fun y=>(zbF 4 y.2).bind fun z=>if z.1=0 then(zbF 4 z.2).bind fun q=>some ((tmK 6 (int:=y.1) (gen:=q.1) (name:=x.1),p),q.2)else none
 else if tag=90 then(zbF 2 l).bind fun x=>if x.1=1 then(zcc x.2).bind fun y=>(zbF 4 y.2).bind fun z=>(zbF 4 z.2).bind fun q=>some ((tmK 3 (int:=q.1) (gen:=z.1) (name:=y.1),p),q.2)else none
 else zc3 T p l0
def zA:Nat->Nat->List UInt8->Option ((Tm × Nat) × List UInt8)
 |0,_,_=>none
 |f+1,p,l=>if p+1<=2000 then(zK l).bind fun x=>zcZ (zA f) (p+1) l x.1 x.2 else none
theorem ziw: ∀(l:List UInt8) (n:Nat),l.foldl (fun n c=>256*n+c.toNat) n=n*256^l.length+beV l
 |[],n=>by simp [beV]
 |c::l,n=>by
  have h1:=ziw l (256*n+c.toNat)
  have h2:beV (c::l)=c.toNat*256^l.length+beV l:=by
   exact zz72
  rw [List.foldl_cons,h1,h2,zzq13,Nat.pow_succ,Nat.add_mul,Nat.mul_comm 256 n,Nat.mul_assoc,Nat.mul_comm 256 (256^l.length),Nat.add_assoc]
theorem zph (l:List UInt8) (n:Nat):l.foldl (fun n c=>256*n+c.toNat) n/256^l.length=n:=by
 rw [ziw,Nat.mul_comm,Nat.mul_add_div (Nat.pow_pos (by omega)),Nat.div_eq_of_lt (zgi l),Nat.add_zero]
theorem zld: ∀(k:Nat) (l:List UInt8) (m:Nat),l.length=k->beN k ((l.foldl (fun n c=>256*n+c.toNat) m:Nat):Int)=l
 |0,[],m,_=>rfl
 |k+1,c::l,m,h=>by
  have hl:l.length=k:=by simpa using h
  have ih:=zld k l (256*m+c.toNat) hl;show UInt8.ofNat _::beN k _=c::l;rw [List.foldl_cons,ih];congr 1;have hd:=zph l (256*m+c.toNat);rw [hl]at hd
  have e:(2:Int)^(8*k)=((256^k:Nat):Int):=by
   rw [Int.natCast_pow,Int.pow_mul];rfl
  rw [e,<-Int.natCast_ediv,hd];have hc:=c.toNat_lt;have:(((256*m+c.toNat:Nat):Int)%256).toNat=c.toNat:=by omega
  rw [this];exact UInt8.ofNat_toNat
theorem zq4 {l:List UInt8} {k:Nat} (h:k<=l.length):beN k (beV (l.take k):Nat)++l.drop k=l:=by
 rw [show beV (l.take k)=(l.take k).foldl (fun n c=>256*n+c.toNat) 0 from rfl,zld k _ 0 (by rw [List.length_take];omega),List.take_append_drop]
theorem zcT {k:Nat} {l l2:List UInt8} {n:Nat} (h:zbF k l=some (n,l2)):l=beN k n++l2/\n<256^k:=by
 unfold zbF at h;split at h
 ·next c=>
  simp only [zzX1]at h;refine⟨by rw [<-h.1,<-h.2];exact(zq4 c).symm,?_⟩;have:=zgi (l.take k);rw [List.length_take,Nat.min_eq_left c,h.1]at this;exact this
 ·exact zz69
theorem zb7 {l l2:List UInt8} {n:Nat} (h:zK l=some (n,l2)):l=UInt8.ofNat n::l2/\n<256:=by
 refine⟨?_,zgE h⟩
 cases l with
 |nil=>exact absurd h (by simp [zK])
 |cons c l=>simp only [zK,Option.some.injEq,Prod.mk.injEq]at h;rw [<-h.1,<-h.2,UInt8.ofNat_toNat]
theorem zey {k:Nat} {l l2:List UInt8} {b:ByteArray} (h:zci k l=some (b,l2)):l=b.data.toList++l2/\b.size=k:=by
 refine⟨?_,zg0 h⟩;unfold zci at h;split at h
 ·next c=>
  simp only [zzX1]at h;rw [<-h.1,<-h.2];show l=(l.take k).toArray.toList++l.drop k;rw [List.toList_toArray,List.take_append_drop]
 ·exact zz69
theorem zeM {l l2:List UInt8} {b:ByteArray} (h:zcc l=some (b,l2)):l=zN b++l2/\b.size<256:=by
 unfold zcc at h;obtain⟨x,hx,h⟩:=zzO.1 h;split at h
 ·next c=>
  obtain⟨y,hy,h⟩:=zzO.1 h;have e1:=zb7 (n:=x.1) (l2:=x.2) hx;have e2:=zb7 (n:=y.1) (l2:=y.2) hy;have e3:=zey h;refine⟨?_,by omega⟩;rw [e1.1,e2.1,e3.1,c,<-e3.2];rfl
 ·exact zz69
theorem zlF: ∀(l:List UInt8),l.getD (l.length-1) 0≠0->0<leV l
 |[],h=>absurd rfl h
 |[c],h=>by
  have h:c≠0:=h;have:c.toNat≠0:=fun e=>h (UInt8.toNat_inj.1 e)
  show 0<256*leV []+c.toNat;omega
 |c::d::l,h=>by
  have:=zlF (d::l) h;show 0<256*leV (d::l)+c.toNat;omega
theorem zlp: ∀(f:Nat) (l:List UInt8),l.length<=f->l.getD (l.length-1) 0≠0->leN f (leV l)=l
 |0,[],_,h=>absurd rfl h
 |f+1,[],_,h=>absurd rfl h
 |f+1,c::l,hl,h=>by
  have hp:=zlF (c::l) h;have hc:=c.toNat_lt;unfold leN;rw [if_neg (by omega)];have e1:leV (c::l)/256=leV l:=by show(256*leV l+c.toNat)/256=leV l;omega
  have e2:UInt8.ofNat (leV (c::l))=c:=by
   apply UInt8.toNat_inj.1;rw [UInt8.toNat_ofNat'];show(256*leV l+c.toNat)%256=c.toNat;omega
  rw [e1,e2];congr 1
  cases l with
  |nil=>cases f<;>rfl
  |cons d l=>exact zlp f (d::l) (by simpa using hl) h
theorem zmy {m:Nat} {b:ByteArray} {n:Int} (h:zd9 m b=some n) (h8:b.size<=8) (hm:m<=1):zb9 n=110::UInt8.ofNat b.size::UInt8.ofNat m::b.data.toList:=by
 unfold zd9 at h;split at h
 ·exact zz69
 next hl=>
 have hL:leN 8 (leV b.data.toList)=b.data.toList:=zlp 8 _ h8 hl;have hz:b.data.toList.length=b.size:=rfl;generalize leV b.data.toList=u at *;split at h
 ·next c=>
  split at h
  ·next c2=>
   simp only [Option.some.injEq]at h;subst c;have e:n.natAbs=u:=by omega
   unfold zb9 zgV;rw [if_neg (by omega),if_neg (by omega),e,hL,hz,if_pos (show n<0 by omega)];rfl
  ·exact zz69
 ·next c=>
  split at h
  ·next c2=>
   simp only [Option.some.injEq]at h;have hm0:m=0:=by omega
   subst hm0;have e:n.natAbs=u:=by omega
   unfold zb9 zgV;rw [if_neg (by omega),if_neg (by omega),e,hL,hz,if_neg (show¬n<0 by omega)];rfl
  ·exact zz69
theorem zlX {l l2:List UInt8} {n:Int} (h:zdp l=some (n,l2)):110::l=zb9 n++l2:=by
 unfold zdp at h;obtain⟨x,hx,h⟩:=zzO.1 h;obtain⟨y,hy,h⟩:=zzO.1 h;split at h
 ·next c=>
  obtain⟨z,hz,h⟩:=zzO.1 h;obtain⟨v,hv,h⟩:=zzO.1 h;simp only [zzX1]at h;have e1:=zb7 (n:=x.1) (l2:=x.2) hx;have e2:=zb7 (n:=y.1) (l2:=y.2) hy;have e3:=zey (b:=z.1) (l2:=z.2) hz;have e4:=zmy hv (by omega) c.2.2;rw [<-h.1,<-h.2,e4,e1.1,e2.1,e3.1,e3.2];rfl
 ·exact zz69
theorem zif {T:Nat->List UInt8->Option ((Tm × Nat) × List UInt8)} {E:Tm->List UInt8} (H: ∀p l t p' l',T p l=some ((t,p'),l')->l=E t++l'):
  ∀(n p:Nat) (l:List UInt8) (ts:List Tm) (p':Nat) (l':List UInt8),zcb T n p l=some ((ts,p'),l')->l=ts.flatMap E++l'/\ts.length=n
 |0,p,l,ts,p',l',h=>by
  simp only [zcb,Option.some.injEq,Prod.mk.injEq]at h;rw [<-h.1.1,<-h.2];exact⟨rfl,rfl⟩
 |n+1,p,l,ts,p',l',h=>by
  unfold zcb at h;obtain⟨x,hx,h⟩:=zzO.1 h;obtain⟨y,hy,h⟩:=zzO.1 h;simp only [zzX1]at h;have e1:=H p l x.1.1 x.1.2 x.2 hx;have e2:=zif H n x.1.2 x.2 y.1.1 y.1.2 y.2 hy;rw [<-h.1.1,<-h.2];refine⟨?_,by rw [zzq13,e2.2]⟩;rw [List.flatMap_cons,zzq4,<-e2.1];exact e1
theorem zgK {T:Nat->List UInt8->Option ((Tm × Nat) × List UInt8)} {E:Tm->List UInt8} (H: ∀p l t p' l',T p l=some ((t,p'),l')->l=E t++l')
  {n p:Nat} {l:List UInt8} {ts:List Tm} {p':Nat} {l':List UInt8} (h:zca T n p l=some ((ts,p'),l')):l=ts.flatMap E++l'/\ts.length=n/\n<=2000:=by
 unfold zca at h;split at h
 ·next c=>have:=zif H n p l ts p' l' h;exact⟨this.1,this.2,c⟩
 ·exact zz69
theorem zkS {E:Tm->List UInt8} {p:Nat} {l:List UInt8} {t:Tm} {p':Nat} {l':List UInt8} (h:zeF p l=some ((t,p'),l')):113::l=(zH t++t.items.flatMap E)++l':=by
 unfold zeF at h;obtain⟨x,hx,h⟩:=zzO.1 h;obtain⟨y,hy,h⟩:=zzO.1 h;obtain⟨z,hz,h⟩:=zzO.1 h;split at h
 ·next c=>
  obtain⟨q,hq,h⟩:=zzO.1 h;simp only [zzX1]at h;have e1:=zeM (b:=x.1) (l2:=x.2) hx;have e2:=zeM (b:=y.1) (l2:=y.2) hy;have e3:=zb7 (n:=z.1) (l2:=z.2) hz;have e4:=zb7 (n:=q.1) (l2:=q.2) hq;have hi:zb9 (q.1:Int)= [97,UInt8.ofNat q.1]:=by unfold zb9;rw [if_pos (by omega)];rfl
  rw [<-h.1.1,<-h.2,e1.1,e2.1,e3.1,e4.1,c];show _=((113::(zN x.1++(zN y.1++zb9 (q.1:Int))))++ [])++q.2;rw [hi];simp
 ·exact zz69
theorem zka {T:Nat->List UInt8->Option ((Tm × Nat) × List UInt8)} {E:Tm->List UInt8} (H: ∀p l t p' l',T p l=some ((t,p'),l')->l=E t++l')
  {p:Nat} {l:List UInt8} {t:Tm} {p':Nat} {l':List UInt8} (h:zd7 T p l=some ((t,p'),l')):112::l=(zH t++t.items.flatMap E)++l':=by
 unfold zd7 at h;obtain⟨a,ha,h⟩:=zzO.1 h;obtain⟨b,hb,h⟩:=zzO.1 h;obtain⟨c,hc,h⟩:=zzO.1 h;obtain⟨d,hd,h⟩:=zzO.1 h;obtain⟨e,he,h⟩:=zzO.1 h;obtain⟨q,hq,h⟩:=zzO.1 h;simp only [zzX1]at h;have e1:=zb7 (n:=a.1) (l2:=a.2) ha;have e2:=zcT (n:=b.1) (l2:=b.2) hb;have e3:=zb7 (n:=c.1) (l2:=c.2) hc;have e4:=zeM (b:=d.1) (l2:=d.2) hd;have e5:=zcT (n:=e.1) (l2:=e.2) he;have e6:=zgK H (ts:=q.1.1) (p':=q.1.2) (l':=q.2) hq;rw [<-h.1.1,<-h.2,e1.1,e2.1,e3.1,e4.1,e5.1,e6.1];show _=((112::UInt8.ofNat ((a.1:Int).toNat)::(beN 2 (b.1:Int)++(UInt8.ofNat q.1.1.length::(zN d.1++beN 4 (e.1:Int)))))++q.1.1.flatMap E)++q.2;rw [e6.2.1];simp
theorem zn2 {n:Nat} (h:n<4294967296):beN 4 (zbZ n)=beN 4 n:=by
 unfold zbZ;split
 ·rfl
 ·have: ∀(k:Nat) (a:Int),k<=4->beN k (a-4294967296)=beN k a:=by
   intro k
   induction k with
   |zero=>intro a _;rfl
   |succ k ih=>
    intro a hk;show UInt8.ofNat _::beN k _=UInt8.ofNat _::beN k _;rw [ih a (by omega)];congr 2;have:k=0∨k=1∨k=2∨k=3:=by omega
    rcases this with rfl|rfl|rfl|rfl<;>simp<;>omega
  exact this 4 n (by omega)
theorem zo7 {T:Nat->List UInt8->Option ((Tm × Nat) × List UInt8)} {E:Tm->List UInt8} (H: ∀p l t p' l',T p l=some ((t,p'),l')->l=E t++l')
  {p:Nat} {l:List UInt8} {t:Tm} {p':Nat} {l':List UInt8} (h:zc3 T p l=some ((t,p'),l')):l=(zH t++t.items.flatMap E)++l':=by
 unfold zc3 at h;obtain⟨x,hx,h⟩:=zzO.1 h;have e1:=zb7 (n:=x.1) (l2:=x.2) hx;split at h
 ·next c=>rw [e1.1,c];exact zkS h
 ·split at h
  ·next c=>rw [e1.1,c];exact zka H h
  ·exact zz69
theorem zqo {T:Nat->List UInt8->Option ((Tm × Nat) × List UInt8)} {E:Tm->List UInt8} (H: ∀p l t p' l',T p l=some ((t,p'),l')->l=E t++l')
  {p tag:Nat} {l0 l:List UInt8} {t:Tm} {p':Nat} {l':List UInt8} (h0:l0=UInt8.ofNat tag::l) (h:zcZ T p l0 tag l=some ((t,p'),l')):l0=(zH t++t.items.flatMap E)++l':=by
 unfold zcZ at h;by_cases c:tag=97
 ·rw [if_pos c]at h
  obtain⟨x,hx,h⟩:=zzO.1 h;simp only [zzX1]at h;have e1:=zb7 (n:=x.1) (l2:=x.2) hx;have hi:zb9 (x.1:Int)= [97,UInt8.ofNat x.1]:=by unfold zb9;rw [if_pos (by omega)];rfl
  rw [h0,c,<-h.1.1,<-h.2,e1.1];show _=(zb9 (x.1:Int)++ [])++x.2;rw [hi];rfl
 rw [if_neg c]at h;by_cases c:tag=98
 ·rw [if_pos c]at h
  obtain⟨x,hx,h⟩:=zzO.1 h;have e1:=zcT (n:=x.1) (l2:=x.2) hx;split at h
  ·next c2=>
   simp only [zzX1]at h;have hx4:x.1<4294967296:=e1.2;have hs: -2147483648<=zbZ x.1/\zbZ x.1<=2147483647:=by unfold zbZ;split<;>omega
   have hi:zb9 (zbZ x.1)=98::beN 4 (zbZ x.1):=by unfold zb9;rw [if_neg (by omega),if_pos hs]
   rw [h0,c,<-h.1.1,<-h.2,e1.1];show _=(zb9 (zbZ x.1)++ [])++x.2;rw [hi,zn2 hx4];simp
  ·exact zz69
 rw [if_neg c]at h;by_cases c:tag=110
 ·rw [if_pos c]at h
  obtain⟨x,hx,h⟩:=zzO.1 h;simp only [zzX1]at h;have e1:=zlX (n:=x.1) (l2:=x.2) hx;rw [h0,c,<-h.1.1,<-h.2];show 110::l=(zb9 x.1++ [])++x.2;rw [e1,List.append_nil]
 rw [if_neg c]at h;by_cases c:tag=119
 ·rw [if_pos c]at h
  obtain⟨x,hx,h⟩:=zzO.1 h;obtain⟨y,hy,h⟩:=zzO.1 h;simp only [zzX1]at h;have e1:=zb7 (n:=x.1) (l2:=x.2) hx;have e2:=zey (b:=y.1) (l2:=y.2) hy;rw [h0,c,<-h.1.1,<-h.2,e1.1,e2.1,<-e2.2];show _=(zN y.1++ [])++y.2;rw [List.append_nil];rfl
 rw [if_neg c]at h;by_cases c:tag=104
 ·rw [if_pos c]at h
  obtain⟨x,hx,h⟩:=zzO.1 h;obtain⟨y,hy,h⟩:=zzO.1 h;simp only [zzX1]at h;have e1:=zb7 (n:=x.1) (l2:=x.2) hx;have e2:=zgK H (ts:=y.1.1) (p':=y.1.2) (l':=y.2) hy;rw [h0,c,<-h.1.1,<-h.2,e1.1,e2.1,<-e2.2.1];rfl
 rw [if_neg c]at h;by_cases c:tag=106
 ·rw [if_pos c]at h
  simp only [zzX1]at h;rw [h0,c,<-h.1.1,<-h.2];rfl
 rw [if_neg c]at h;by_cases c:tag=108
 ·rw [if_pos c]at h
  obtain⟨x,hx,h⟩:=zzO.1 h;obtain⟨y,hy,h⟩:=zzO.1 h;simp only [zzX1]at h;have e1:=zcT (n:=x.1) (l2:=x.2) hx;have e2:=zgK H (ts:=y.1.1) (p':=y.1.2) (l':=y.2) hy;have e3:((y.1.1.length:Int)-1)=(x.1:Int):=by omega
  rw [h0,c,<-h.1.1,<-h.2,e1.1,e2.1];show _=((108::beN 4 ((y.1.1.length:Int)-1))++y.1.1.flatMap E)++y.2;rw [e3];simp
 rw [if_neg c]at h;by_cases c:tag=109
 ·rw [if_pos c]at h
  obtain⟨x,hx,h⟩:=zzO.1 h;obtain⟨y,hy,h⟩:=zzO.1 h;simp only [zzX1]at h;have e1:=zcT (n:=x.1) (l2:=x.2) hx;have e2:=zey (b:=y.1) (l2:=y.2) hy
  have hh:zH (tmK 10 (bytes:=y.1) (bits:=8*(y.1.size:Int)))=109::(beN 4 y.1.size++y.1.data.toList):=by
   show(if(8*(y.1.size:Int))%8=0 then _ else _)=_;rw [if_pos (by omega)];rfl
  rw [h0,c,<-h.1.1,<-h.2,e1.1,e2.1,hh,e2.2];show _=((109::(beN 4 x.1++y.1.data.toList))++ [])++y.2;simp
 rw [if_neg c]at h;by_cases c:tag=77
 ·rw [if_pos c]at h
  obtain⟨x,hx,h⟩:=zzO.1 h;obtain⟨y,hy,h⟩:=zzO.1 h;split at h
  ·next c2=>
   obtain⟨z,hz,h⟩:=zzO.1 h;simp only [zzX1]at h;have e1:=zcT (n:=x.1) (l2:=x.2) hx;have e2:=zb7 (n:=y.1) (l2:=y.2) hy;have e3:=zey (b:=z.1) (l2:=z.2) hz;have hm:(8*((x.1:Int)-1)+y.1)%8=y.1:=by omega
   have hh:zH (tmK 10 (bytes:=z.1) (bits:=8*((x.1:Int)-1)+y.1))=77::(beN 4 z.1.size++(UInt8.ofNat y.1::z.1.data.toList)):=by
    show(if(8*((x.1:Int)-1)+y.1)%8=0 then _ else 77::(beN 4 z.1.size++(UInt8.ofNat ((8*((x.1:Int)-1)+y.1)%8).toNat::z.1.data.toList)))=_;rw [if_neg (by omega),hm];rfl
   rw [h0,c,<-h.1.1,<-h.2,e1.1,e2.1,e3.1,hh,e3.2];show _=((77::(beN 4 x.1++(UInt8.ofNat y.1::z.1.data.toList)))++ [])++z.2;simp
  ·exact zz69
 rw [if_neg c]at h;by_cases c:tag=88
 ·rw [if_pos c]at h
  obtain⟨x,hx,h⟩:=zzO.1 h;obtain⟨y,hy,h⟩:=zzO.1 h;obtain⟨z,hz,h⟩:=zzO.1 h;split at h
  ·next c2=>
   obtain⟨q,hq,h⟩:=zzO.1 h;simp only [zzX1]at h;have e1:=zeM (b:=x.1) (l2:=x.2) hx;have e2:=zcT (n:=y.1) (l2:=y.2) hy;have e3:=zcT (n:=z.1) (l2:=z.2) hz;have e4:=zcT (n:=q.1) (l2:=q.2) hq;rw [h0,c,<-h.1.1,<-h.2,e1.1,e2.1,e3.1,e4.1,c2];show _=((88::(zN x.1++(beN 4 y.1++(beN 4 0++beN 4 q.1))))++ [])++q.2;simp
  ·exact zz69
 rw [if_neg c]at h;by_cases c:tag=90
 ·rw [if_pos c]at h
  obtain⟨x,hx,h⟩:=zzO.1 h;split at h
  ·next c2=>
   obtain⟨y,hy,h⟩:=zzO.1 h;obtain⟨z,hz,h⟩:=zzO.1 h;obtain⟨q,hq,h⟩:=zzO.1 h;simp only [zzX1]at h;have e1:=zcT (n:=x.1) (l2:=x.2) hx;have e2:=zeM (b:=y.1) (l2:=y.2) hy;have e3:=zcT (n:=z.1) (l2:=z.2) hz;have e4:=zcT (n:=q.1) (l2:=q.2) hq;rw [h0,c,<-h.1.1,<-h.2,e1.1,e2.1,e3.1,e4.1,c2];show _=((90::0::1::(zN y.1++(beN 4 z.1++beN 4 q.1)))++ [])++q.2;rw [show beN 2 ((1:Nat):Int)= [0,1]from rfl];simp
  ·exact zz69
 rw [if_neg c]at h;exact zo7 H h
theorem zjc: ∀(f p:Nat) (l:List UInt8) (t:Tm) (p':Nat) (l':List UInt8),zA f p l=some ((t,p'),l')->l=zV f t++l'
 |0,p,l,t,p',l',h=>absurd h (by simp [zA])
 |f+1,p,l,t,p',l',h=>by
  unfold zA at h;split at h
  ·obtain⟨x,hx,h⟩:=zzO.1 h
   have e1:=zb7 (n:=x.1) (l2:=x.2) hx;exact zqo (zjc f) e1.1 h
  ·exact zz69
theorem zp9 (c:UInt8) (l:List UInt8):beV (c::l)=c.toNat*256^l.length+beV l:=by
 exact zz72
theorem zlh: ∀(k n:Nat),beV (beN k (n:Int))=n%256^k
 |0,n=>by rw [Nat.pow_zero,Nat.mod_one];rfl
 |k+1,n=>by
  have e:(2:Int)^(8*k)=((256^k:Nat):Int):=by
   rw [Int.natCast_pow,Int.pow_mul];rfl
  have h:beN (k+1) (n:Int)=UInt8.ofNat (n/256^k%256)::beN k n:=by
   show UInt8.ofNat ((n:Int)/2^(8*k)%256).toNat::beN k n=_;rw [e,<-Int.natCast_ediv];congr 2
  rw [h,zp9,zk,zlh k n,UInt8.toNat_ofNat',Nat.mod_eq_of_lt (a:=n/256^k%256) (by omega),Nat.pow_succ,Nat.mod_mul,Nat.mul_comm (256^k),Nat.add_comm]
theorem zfa {k n:Nat} (h:n<256^k) (l:List UInt8):zbF k (beN k (n:Int)++l)=some (n,l):=by
 have hl:=zk k (n:Int);unfold zbF;rw [if_pos (by rw [zzq1];omega),List.take_left' hl,List.drop_left' hl,zlh,Nat.mod_eq_of_lt h]
theorem zef {k:Nat} {n:Int} (h0:0<=n) (h:n.toNat<256^k) (l:List UInt8):zbF k (beN k n++l)=some (n.toNat,l):=by
 have:=zfa h l
 rwa [Int.toNat_of_nonneg h0]at this
theorem zfQ (b:ByteArray) (l:List UInt8):zci b.size (b.data.toList++l)=some (b,l):=by
 have hl:b.data.toList.length=b.size:=rfl;unfold zci;rw [if_pos (by rw [zzq1];omega),List.take_left' hl,List.drop_left' hl]
theorem zcj {n:Nat} (h:n<256) (l:List UInt8):zK (UInt8.ofNat n::l)=some (n,l):=by
 show some ((UInt8.ofNat n).toNat,l)=_;rw [UInt8.toNat_ofNat',Nat.mod_eq_of_lt (by omega)]
theorem zfp {b:ByteArray} (h:b.size<256) (l:List UInt8):zcc (zN b++l)=some (b,l):=by
 unfold zcc;rw [show zN b++l=UInt8.ofNat 119::(UInt8.ofNat b.size::(b.data.toList++l))from rfl,zcj (by omega),zzq0,if_pos rfl,zcj h,zzq0,zfQ]
theorem zlo: ∀(f n:Nat),n<256^f->leV (leN f n)=n
 |0,n,h=>by
   rw [Nat.pow_zero]at h;have:n=0:=by omega
   subst this;rfl
 |f+1,n,h=>by
  unfold leN;split
  ·next c=>rw [c];rfl
  ·show 256*leV (leN f (n/256))+(UInt8.ofNat n).toNat=n
   rw [zlo f (n/256) (by rw [Nat.pow_succ]at h;omega),UInt8.toNat_ofNat'];show 256*(n/256)+n%256=n;omega
theorem zjT: ∀(f n:Nat),n<256^f->0<n->(leN f n).getD ((leN f n).length-1) 0≠0
 |0,n,h,h0=>by rw [Nat.pow_zero]at h;omega
 |f+1,n,h,h0=>by
  unfold leN;rw [if_neg (by omega)];by_cases c:n/256=0
  ·have e:leN f (n/256)= []:=by rw [c];cases f<;>rfl
   rw [e];show UInt8.ofNat n≠0;intro e2;have:=congrArg UInt8.toNat e2;rw [UInt8.toNat_ofNat']at this;have h256:n%256=0:=this;omega
  ·have ih:=zjT f (n/256) (by rw [Nat.pow_succ]at h;omega) (by omega)
   have hne:leN f (n/256)≠ []:=fun e=>by rw [e]at ih;exact ih rfl
   obtain⟨c2,l2,e⟩:=List.exists_cons_of_ne_nil hne;rw [e]at ih ⊢;exact ih
theorem znn: ∀(f n:Nat),n<256^f-> ∀k,256^k<=n->k<(leN f n).length
 |0,n,h,k,hk=>by have:=Nat.pow_pos (n:=k) (show 0<256 by omega);rw [Nat.pow_zero]at h;omega
 |f+1,n,h,k,hk=>by
  have hp:=Nat.pow_pos (n:=k) (show 0<256 by omega);unfold leN;rw [if_neg (by omega),zzq13]
  cases k with
  |zero=>omega
  |succ k=>
   have:=znn f (n/256) (by rw [Nat.pow_succ]at h;omega) k (by rw [Nat.pow_succ]at hk;omega);omega
theorem zmC {n:Int} (h:I64 n) (hb:n< -2147483648∨2147483647<n) (l:List UInt8): ∃l2,zgV n=110::l2/\zdp (l2++l)=some (n,l):=by
 unfold I64 at h;refine⟨_,rfl,?_⟩;have hu:n.natAbs<256^8:=by rw [show(256:Nat)^8=18446744073709551616 from rfl];omega
 have hz:=ziH 8 n.natAbs;have hg:=znn 8 n.natAbs hu 3 (by rw [show(256:Nat)^3=16777216 from rfl];omega);have hlast:=zjT 8 n.natAbs hu (by omega);have hv:=zlo 8 n.natAbs hu;generalize leN 8 n.natAbs=c at *;have hs:(if n<0 then(1:UInt8)else 0)=UInt8.ofNat (if n<0 then 1 else 0):=by split<;>rfl
 have hc:(⟨c.toArray⟩:ByteArray).size=c.length:=by simp [ByteArray.size]
 have hstr:=zfQ ⟨c.toArray⟩ l;rw [hc]at hstr;have hstr:zci c.length (c++l)=some (⟨c.toArray⟩,l):=by simpa using hstr
 unfold zdp;rw [hs];show(zK (UInt8.ofNat c.length::(UInt8.ofNat (if n<0 then 1 else 0)::(c++l)))).bind _=_;rw [zcj (by omega),zzq0,zcj (by split<;>omega),zzq0,if_pos ⟨by omega,hz,by split<;>omega⟩,hstr,zzq0]
 have hV:zd9 (if n<0 then 1 else 0) ⟨c.toArray⟩=some n:=by
  unfold zd9;rw [hc];rw [if_neg (by simpa using hlast)];have hv:leV (⟨c.toArray⟩:ByteArray).data.toList=n.natAbs:=by simpa using hv
  rw [hv];by_cases c0:n<0
  ·rw [if_pos c0,if_pos rfl,if_pos (by omega)];congr 1;omega
  ·rw [if_neg c0,if_neg (by omega),if_pos (by omega)];congr 1;omega
 rw [hV,zzq0]
def zW:Nat->Tm->Nat
 |0,_=>0
 |f+1,t=>1+(t.items.map (zW f)).sum
def OkF:Nat->Tm->Prop
 |0,_=>False
 |f+1,t=>t.Ok/\ ∀x∈t.items,OkF f x
theorem zh0 {T:Nat->List UInt8->Option ((Tm × Nat) × List UInt8)} {E:Tm->List UInt8} {N:Tm->Nat}:
  ∀(ts:List Tm) (p:Nat) (l:List UInt8),(∀x∈ts,∀p l,p+N x<=2000->T p (E x++l)=some ((x,p+N x),l))->p+(ts.map N).sum<=2000->zcb T ts.length p (ts.flatMap E++l)=some ((ts,p+(ts.map N).sum),l)
 |[],p,l,_,_=>rfl
 |x::ts,p,l,H,hp=>by
  rw [List.map_cons,List.sum_cons]at hp;have ih:=zh0 ts (p+N x) l (fun y hy=>H y (List.mem_cons_of_mem _ hy)) (by omega);rw [zzq13,List.flatMap_cons,zzq4];unfold zcb;rw [H x (List.mem_cons_self ..) p _ (by omega),zzq0];show(zcb T ts.length (p+N x) (ts.flatMap E++l)).bind _=_;rw [ih,zzq0,List.map_cons,List.sum_cons,Nat.add_assoc]
theorem bz {b:ByteArray} (h:b.size=0):b=⟨#[]⟩:=ByteArray.ext (Array.eq_empty_of_size_eq_zero h)
theorem zfy {t:Tm} (h:zcW t=true):
  (¬(t.kind=1∨t.kind=3∨t.kind=4∨t.kind=6)->t.int=0)/\(¬(t.kind=3∨t.kind=4∨t.kind=6)->t.gen=0)/\(¬(t.kind=2∨t.kind=3∨t.kind=4∨t.kind=5∨t.kind=6)->t.name=⟨#[]⟩) /\
  (¬t.kind=5->t.func=⟨#[]⟩)/\(¬(t.kind=4∨t.kind=5)->t.arity=0)/\(¬(t.kind=4∨t.kind=7∨t.kind=9)->t.items= [])/\(¬t.kind=10->t.bytes=⟨#[]⟩)/\(¬t.kind=10->t.bits=0):=by
 unfold zcW at h;simp only [Bool.and_eq_true,Bool.or_eq_true,decide_eq_true_eq,zI,zS,zL]at h;obtain⟨⟨⟨⟨⟨⟨⟨h1,h2⟩,h3⟩,h4⟩,h5⟩,h6⟩,h7⟩,h8⟩:=h;exact⟨fun c=>h1.resolve_left c,fun c=>h2.resolve_left c,fun c=>bz (h3.resolve_left c),fun c=>bz (h4.resolve_left c),fun c=>h5.resolve_left c,fun c=>List.length_eq_zero_iff.1 (h6.resolve_left c),fun c=>bz (h7.resolve_left c),fun c=>h8.resolve_left c⟩
theorem zfh (t:Tm):t= .mk t.kind t.int t.gen t.name t.func t.arity t.items t.bytes t.bits:=by cases t;rfl
theorem zsq {t:Tm} (hz:zcW t=true) (hk:t.kind=1):t=tmK 1 (int:=t.int):=by
 obtain⟨h1,h2,h3,h4,h5,h6,h7,h8⟩:=zfy hz
 conv=>lhs;rw [zfh t]
 rw [hk,h2 (by omega),h3 (by omega),h4 (by omega),h5 (by omega),h6 (by omega),h7 (by omega),h8 (by omega)];rfl
theorem zsA {t:Tm} (hz:zcW t=true) (hk:t.kind=2):t=tmK 2 (name:=t.name):=by
 obtain⟨h1,h2,h3,h4,h5,h6,h7,h8⟩:=zfy hz
 conv=>lhs;rw [zfh t]
 rw [hk,h1 (by omega),h2 (by omega),h4 (by omega),h5 (by omega),h6 (by omega),h7 (by omega),h8 (by omega)];rfl
theorem zsw {t:Tm} (hz:zcW t=true) (hk:t.kind=3):t=tmK 3 (int:=t.int) (gen:=t.gen) (name:=t.name):=by
 exact zz73
theorem zsy {t:Tm} (hz:zcW t=true) (hk:t.kind=4):t=tmK 4 (int:=t.int) (gen:=t.gen) (name:=t.name) (arity:=t.arity) (items:=t.items):=by
 obtain⟨h1,h2,h3,h4,h5,h6,h7,h8⟩:=zfy hz
 conv=>lhs;rw [zfh t]
 rw [hk,h4 (by omega),h7 (by omega),h8 (by omega)];rfl
theorem zsz {t:Tm} (hz:zcW t=true) (hk:t.kind=5):t=tmK 5 (name:=t.name) (func:=t.func) (arity:=t.arity):=by
 obtain⟨h1,h2,h3,h4,h5,h6,h7,h8⟩:=zfy hz
 conv=>lhs;rw [zfh t]
 rw [hk,h1 (by omega),h2 (by omega),h6 (by omega),h7 (by omega),h8 (by omega)];rfl
theorem zsr {t:Tm} (hz:zcW t=true) (hk:t.kind=6):t=tmK 6 (int:=t.int) (gen:=t.gen) (name:=t.name):=by
 exact zz73
theorem zss {t:Tm} (hz:zcW t=true) (hk:t.kind=7):t=tmK 7 (items:=t.items):=by
 exact zz74
theorem zsu {t:Tm} (hz:zcW t=true) (hk:t.kind=8):t=tmK 8:=by
 obtain⟨h1,h2,h3,h4,h5,h6,h7,h8⟩:=zfy hz
 conv=>lhs;rw [zfh t]
 rw [hk,h1 (by omega),h2 (by omega),h3 (by omega),h4 (by omega),h5 (by omega),h6 (by omega),h7 (by omega),h8 (by omega)];rfl
theorem zsv {t:Tm} (hz:zcW t=true) (hk:t.kind=9):t=tmK 9 (items:=t.items):=by
 exact zz74
theorem zr9 {t:Tm} (hz:zcW t=true) (hk:t.kind=10):t=tmK 10 (bytes:=t.bytes) (bits:=t.bits):=by
 obtain⟨h1,h2,h3,h4,h5,h6,h7,h8⟩:=zfy hz
 conv=>lhs;rw [zfh t]
 rw [hk,h1 (by omega),h2 (by omega),h3 (by omega),h4 (by omega),h5 (by omega),h6 (by omega)];rfl
theorem znS {N:Tm->Nat}: ∀(ts:List Tm),(∀x∈ts,1<=N x)->ts.length<=(ts.map N).sum
 |[],_=>zzL _
 |x::ts,h=>by
  have h1:=h x (List.mem_cons_self ..);have h2:=znS ts fun y hy=>h y (List.mem_cons_of_mem _ hy)
  rw [List.map_cons,List.sum_cons,zzq13];omega
theorem zpf {f:Nat} {t:Tm} (h:zj f t=true):1<=zW f t:=by
 cases f with
 |zero=>exact absurd h (by simp [zj])
 |succ f=>unfold zW;omega
theorem zqL {f:Nat} (T:Nat->List UInt8->Option ((Tm × Nat) × List UInt8)) (t:Tm) (p:Nat) (l:List UInt8) (hl:zcH t=true) (hok:t.Ok)
  (H: ∀x∈t.items,∀p l,p+zW f x<=2000->T p (zV f x++l)=some ((x,p+zW f x),l)) (hN: ∀x∈t.items,1<=zW f x) (hp:p+(t.items.map (zW f)).sum<=2000):
  ∃(tag:Nat) (l1:List UInt8),zH t++t.items.flatMap (zV f)++l=UInt8.ofNat tag::l1/\tag<256/\zcZ T p (zH t++t.items.flatMap (zV f)++l) tag l1=some ((t,p+(t.items.map (zW f)).sum),l):=by
 unfold zcH at hl;rw [Bool.and_eq_true]at hl;obtain⟨hk,hz⟩:=hl;have hlen:=znS t.items hN
 have hit:t.items.length<=2000->zca T t.items.length p (t.items.flatMap (zV f)++l)=some ((t.items,p+(t.items.map (zW f)).sum),l):=fun c=>by
  unfold zca;rw [if_pos c];exact zh0 t.items p l H hp
 have hit:=hit (by omega);obtain⟨ok1,ok2,ok3,-⟩:=hok;obtain⟨h1,h2,h3,h4,h5,h6,h7,h8⟩:=zfy hz;by_cases k1:t.kind=1
 ·have he:=zsq hz k1
  have hh:zH t=zb9 t.int:=by unfold zH;rw [if_pos k1]
  have hi:t.items= []:=h6 (by omega);simp only [hi,hh,List.flatMap_nil,List.append_nil,List.map_nil,List.sum_nil,Nat.add_zero];by_cases c1:0<=t.int/\t.int<=255
  ·refine⟨97,UInt8.ofNat t.int.toNat::l,by unfold zb9;rw [if_pos c1];rfl,by omega,?_⟩
   unfold zcZ;rw [if_pos rfl];rw [zcj (by omega),zzq0];show some ((tmK 1 (int:=(t.int.toNat:Int)),p),l)=_;rw [Int.toNat_of_nonneg c1.1,<-he]
  ·by_cases c2: -2147483648<=t.int/\t.int<=2147483647
   ·have hs:zbZ (t.int%4294967296).toNat=t.int:=by unfold zbZ;split<;>omega
    have hb:beN 4 t.int=beN 4 ((t.int%4294967296).toNat:Nat):=by
     have:=zn2 (n:=(t.int%4294967296).toNat) (by omega);rw [hs]at this;exact this
    refine⟨98,beN 4 t.int++l,by unfold zb9;rw [if_neg c1,if_pos c2];rfl,by omega,?_⟩;unfold zcZ;rw [if_neg (by omega),if_pos rfl];rw [hb,zfa (by rw [show(256:Nat)^4=4294967296 from rfl];omega),zzq0];show(if zbZ (t.int%4294967296).toNat<0∨255<zbZ (t.int%4294967296).toNat then some ((tmK 1 (int:=zbZ (t.int%4294967296).toNat),p),l)else none)=_;rw [hs,if_pos (by omega),<-he]
   ·obtain⟨l2,e1,e2⟩:=zmC ok2 (by omega) l
    refine⟨110,l2++l,by unfold zb9;rw [if_neg c1,if_neg c2,e1];rfl,by omega,?_⟩;unfold zcZ;rw [if_neg (by omega),if_neg (by omega),if_pos rfl];rw [e2,zzq0];show some ((tmK 1 (int:=t.int),p),l)=_;rw [<-he]
 by_cases k2:t.kind=2
 ·have he:=zsA hz k2
  have hh:zH t=zN t.name:=by unfold zH;rw [if_neg k1,if_pos k2]
  have hi:t.items= []:=h6 (by omega);have hn:zB t.name=true:=by unfold okK at hk;rw [if_neg k1,if_pos k2]at hk;exact hk
  have hm:=zbs hn;simp only [hi,hh,List.flatMap_nil,List.append_nil,List.map_nil,List.sum_nil,Nat.add_zero];refine⟨119,UInt8.ofNat t.name.size::(t.name.data.toList++l),rfl,by omega,?_⟩;unfold zcZ;rw [if_neg (by omega),if_neg (by omega),if_neg (by omega),if_pos rfl];rw [zcj (by omega),zzq0];show(zci t.name.size (t.name.data.toList++l)).bind _=_;rw [zfQ,zzq0];show some ((tmK 2 (name:=t.name),p),l)=_;rw [<-he]
 by_cases k3:t.kind=3
 ·have he:=zsw hz k3
  have hh:zH t=90::0::1::(zN t.name++(beN 4 t.gen++beN 4 t.int)):=by unfold zH;rw [if_neg k1,if_neg k2,if_pos k3]
  have hq:wi t.int 1 2147483647=true/\wi t.gen 1 2147483647=true/\zB t.name=true:=by unfold okK at hk;rw [if_neg k1,if_neg k2,if_pos (.inl k3)]at hk;simpa [Bool.and_eq_true,and_assoc] using hk
  have hm:=zbs hq.2.2;have hw1:=zff hq.1;have hw2:=zff hq.2.1;have hi:t.items= []:=h6 (by omega);simp only [hi,hh,List.flatMap_nil,List.append_nil,List.map_nil,List.sum_nil,Nat.add_zero];refine⟨90,0::1::(zN t.name++(beN 4 t.gen++(beN 4 t.int++l))),by simp,by omega,?_⟩;unfold zcZ;rw [if_neg (by omega),if_neg (by omega),if_neg (by omega),if_neg (by omega),if_neg (by omega),if_neg (by omega),if_neg (by omega),if_neg (by omega),if_neg (by omega),if_neg (by omega),if_pos rfl];rw [show zbF 2 (0::1::(zN t.name++(beN 4 t.gen++(beN 4 t.int++l))))=some (1,zN t.name++(beN 4 t.gen++(beN 4 t.int++l)))from zfa (k:=2) (n:=1) (by decide) _,zzq0,if_pos rfl];rw [zfp (by omega),zzq0];rw [zef (by omega) (by rw [show(256:Nat)^4=4294967296 from rfl];omega),zzq0];rw [zef (by omega) (by rw [show(256:Nat)^4=4294967296 from rfl];omega),zzq0];show some ((tmK 3 (int:=(t.int.toNat:Int)) (gen:=(t.gen.toNat:Int)) (name:=t.name),p),l)=_;rw [Int.toNat_of_nonneg (by omega),Int.toNat_of_nonneg (by omega),<-he]
 by_cases k4:t.kind=4
 ·have he:=zsy hz k4
  have h36: ¬(t.kind=3∨t.kind=6):=by omega
  have hh:zH t=112::UInt8.ofNat t.arity.toNat::(beN 2 t.int++(UInt8.ofNat t.items.length::(zN t.name++beN 4 t.gen))):=by unfold zH;rw [if_neg k1,if_neg k2,if_neg k3,if_pos k4]
  have hq:wi t.int 0 999=true/\wi t.gen 1 2147483647=true/\zB t.name=true/\wi t.arity 0 16=true/\t.items.length<=200:=by unfold okK at hk;rw [if_neg k1,if_neg k2,if_neg h36,if_pos k4]at hk;simpa [Bool.and_eq_true,and_assoc] using hk
  have hm:=zbs hq.2.2.1;have hw1:=zff hq.1;have hw2:=zff hq.2.1;have hw3:=zff hq.2.2.2.1;rw [hh];refine⟨112,UInt8.ofNat t.arity.toNat::(beN 2 t.int++(UInt8.ofNat t.items.length::(zN t.name++(beN 4 t.gen++(t.items.flatMap (zV f)++l))))),by simp,by omega,?_⟩;rw [show 112::UInt8.ofNat t.arity.toNat::(beN 2 t.int++(UInt8.ofNat t.items.length::(zN t.name++beN 4 t.gen)))++t.items.flatMap (zV f)++l=UInt8.ofNat 112::(UInt8.ofNat t.arity.toNat::(beN 2 t.int++(UInt8.ofNat t.items.length::(zN t.name++(beN 4 t.gen++(t.items.flatMap (zV f)++l))))))by simp];unfold zcZ;rw [if_neg (by omega),if_neg (by omega),if_neg (by omega),if_neg (by omega),if_neg (by omega),if_neg (by omega),if_neg (by omega),if_neg (by omega),if_neg (by omega),if_neg (by omega),if_neg (by omega)];unfold zc3;rw [zcj (by omega),zzq0,if_neg (show¬(112:Nat)=113 by decide),if_pos rfl];unfold zd7;rw [zcj (by omega),zzq0];rw [zef (by omega) (by rw [show(256:Nat)^2=65536 from rfl];omega),zzq0];rw [zcj (by omega),zzq0,zfp (by omega),zzq0];rw [zef (by omega) (by rw [show(256:Nat)^4=4294967296 from rfl];omega),zzq0,hit,zzq0];show some ((tmK 4 (int:=(t.int.toNat:Int)) (gen:=(t.gen.toNat:Int)) (name:=t.name) (arity:=(t.arity.toNat:Int)) (items:=t.items),_),l)=_;rw [Int.toNat_of_nonneg (by omega),Int.toNat_of_nonneg (by omega),Int.toNat_of_nonneg (by omega),<-he]
 by_cases k5:t.kind=5
 ·have he:=zsz hz k5
  have h36: ¬(t.kind=3∨t.kind=6):=by omega
  have hh:zH t=113::(zN t.name++(zN t.func++zb9 t.arity)):=by unfold zH;rw [if_neg k1,if_neg k2,if_neg k3,if_neg k4,if_pos k5]
  have hq:zB t.name=true/\zB t.func=true/\wi t.arity 0 16=true:=by unfold okK at hk;rw [if_neg k1,if_neg k2,if_neg h36,if_neg k4,if_pos k5]at hk;simpa [Bool.and_eq_true,and_assoc] using hk
  have hm:=zbs hq.1;have hm2:=zbs hq.2.1;have hw3:=zff hq.2.2;have ha:zb9 t.arity= [97,UInt8.ofNat t.arity.toNat]:=by unfold zb9;rw [if_pos (by omega)]
  have hi:t.items= []:=h6 (by omega);simp only [hi,hh,List.flatMap_nil,List.append_nil,List.map_nil,List.sum_nil,Nat.add_zero];refine⟨113,zN t.name++(zN t.func++(UInt8.ofNat 97::UInt8.ofNat t.arity.toNat::l)),by rw [ha];simp,by omega,?_⟩;rw [show 113::(zN t.name++(zN t.func++zb9 t.arity))++l=UInt8.ofNat 113::(zN t.name++(zN t.func++(UInt8.ofNat 97::UInt8.ofNat t.arity.toNat::l)))by rw [ha];simp];unfold zcZ;rw [if_neg (by omega),if_neg (by omega),if_neg (by omega),if_neg (by omega),if_neg (by omega),if_neg (by omega),if_neg (by omega),if_neg (by omega),if_neg (by omega),if_neg (by omega),if_neg (by omega)];unfold zc3;rw [zcj (by omega),zzq0,if_pos rfl];unfold zeF;rw [zfp (by omega),zzq0,zfp (by omega),zzq0,zcj (by omega),zzq0,if_pos rfl,zcj (by omega),zzq0];show some ((tmK 5 (name:=t.name) (func:=t.func) (arity:=(t.arity.toNat:Int)),p),l)=_;rw [Int.toNat_of_nonneg (by omega),<-he]
 by_cases k6:t.kind=6
 ·have he:=zsr hz k6
  have hh:zH t=88::(zN t.name++(beN 4 t.int++(beN 4 0++beN 4 t.gen))):=by unfold zH;rw [if_neg k1,if_neg k2,if_neg k3,if_neg k4,if_neg k5,if_pos k6]
  have hq:wi t.int 1 2147483647=true/\wi t.gen 1 2147483647=true/\zB t.name=true:=by unfold okK at hk;rw [if_neg k1,if_neg k2,if_pos (.inr k6)]at hk;simpa [Bool.and_eq_true,and_assoc] using hk
  have hm:=zbs hq.2.2;have hw1:=zff hq.1;have hw2:=zff hq.2.1;have hi:t.items= []:=h6 (by omega);simp only [hi,hh,List.flatMap_nil,List.append_nil,List.map_nil,List.sum_nil,Nat.add_zero];refine⟨88,zN t.name++(beN 4 t.int++(beN 4 ((0:Nat):Int)++(beN 4 t.gen++l))),by simp,by omega,?_⟩;unfold zcZ;rw [if_neg (by omega),if_neg (by omega),if_neg (by omega),if_neg (by omega),if_neg (by omega),if_neg (by omega),if_neg (by omega),if_neg (by omega),if_neg (by omega),if_pos rfl];rw [zfp (by omega),zzq0,zef (by omega) (by rw [show(256:Nat)^4=4294967296 from rfl];omega),zzq0,zfa (by decide),zzq0,if_pos rfl,zef (by omega) (by rw [show(256:Nat)^4=4294967296 from rfl];omega),zzq0];show some ((tmK 6 (int:=(t.int.toNat:Int)) (gen:=(t.gen.toNat:Int)) (name:=t.name),p),l)=_;rw [Int.toNat_of_nonneg (by omega),Int.toNat_of_nonneg (by omega),<-he]
 by_cases k7:t.kind=7
 ·have he:=zss hz k7
  have h36: ¬(t.kind=3∨t.kind=6):=by omega
  have hh:zH t= [104,UInt8.ofNat t.items.length]:=by unfold zH;rw [if_neg k1,if_neg k2,if_neg k3,if_neg k4,if_neg k5,if_neg k6,if_pos k7]
  have hq:t.items.length<=255:=by unfold okK at hk;rw [if_neg k1,if_neg k2,if_neg h36,if_neg k4,if_neg k5,if_pos k7]at hk;simpa using hk
  rw [hh];refine⟨104,UInt8.ofNat t.items.length::(t.items.flatMap (zV f)++l),by simp,by omega,?_⟩;unfold zcZ;rw [if_neg (by omega),if_neg (by omega),if_neg (by omega),if_neg (by omega),if_pos rfl];rw [zcj (by omega),zzq0,hit,zzq0];show some ((tmK 7 (items:=t.items),_),l)=_;rw [<-he]
 by_cases k8:t.kind=8
 ·have he:=zsu hz k8
  have hh:zH t= [106]:=by unfold zH;rw [if_neg k1,if_neg k2,if_neg k3,if_neg k4,if_neg k5,if_neg k6,if_neg k7,if_pos k8]
  have hi:t.items= []:=h6 (by omega);simp only [hi,hh,List.flatMap_nil,List.append_nil,List.map_nil,List.sum_nil,Nat.add_zero];refine⟨106,l,rfl,by omega,?_⟩;unfold zcZ;rw [if_neg (by omega),if_neg (by omega),if_neg (by omega),if_neg (by omega),if_neg (by omega),if_pos rfl];rw [<-he]
 by_cases k9:t.kind=9
 ·have he:=zsv hz k9
  have h36: ¬(t.kind=3∨t.kind=6):=by omega
  have hh:zH t=108::beN 4 ((t.items.length:Int)-1):=by unfold zH;rw [if_neg k1,if_neg k2,if_neg k3,if_neg k4,if_neg k5,if_neg k6,if_neg k7,if_neg k8,if_pos k9]
  have hq:2<=t.items.length:=by unfold okK at hk;rw [if_neg k1,if_neg k2,if_neg h36,if_neg k4,if_neg k5,if_neg k7,if_neg k8,if_pos k9]at hk;simp at hk;exact hk.1
  have hn:((t.items.length:Int)-1).toNat+1=t.items.length:=by omega
  rw [hh];refine⟨108,beN 4 ((t.items.length:Int)-1)++(t.items.flatMap (zV f)++l),by simp,by omega,?_⟩;unfold zcZ;rw [if_neg (by omega),if_neg (by omega),if_neg (by omega),if_neg (by omega),if_neg (by omega),if_neg (by omega),if_pos rfl];rw [zef (by omega) (by rw [show(256:Nat)^4=4294967296 from rfl];omega),zzq0];show(zca T (((t.items.length:Int)-1).toNat+1) p _).bind _=_;rw [hn,hit,zzq0];show some ((tmK 9 (items:=t.items),_),l)=_;rw [<-he]
 by_cases k10:t.kind=10
 ·have he:=zr9 hz k10
  have h36: ¬(t.kind=3∨t.kind=6):=by omega
  have hq:zgG t=true:=by unfold okK at hk;rw [if_neg k1,if_neg k2,if_neg h36,if_neg k4,if_neg k5,if_neg k7,if_neg k8,if_neg k9,if_pos k10]at hk;exact hk
  have hv:=zgQ hq;have hi:t.items= []:=h6 (by omega);by_cases c:t.bits%8=0
  ·have hh:zH t=109::(beN 4 t.bytes.size++t.bytes.data.toList):=by unfold zH;rw [if_neg k1,if_neg k2,if_neg k3,if_neg k4,if_neg k5,if_neg k6,if_neg k7,if_neg k8,if_neg k9,if_pos k10,if_pos c]
   simp only [hi,hh,List.flatMap_nil,List.append_nil,List.map_nil,List.sum_nil,Nat.add_zero];refine⟨109,beN 4 (t.bytes.size:Nat)++(t.bytes.data.toList++l),by simp,by omega,?_⟩;unfold zcZ;rw [if_neg (by omega),if_neg (by omega),if_neg (by omega),if_neg (by omega),if_neg (by omega),if_neg (by omega),if_neg (by omega),if_pos rfl];rw [zfa (by rw [show(256:Nat)^4=4294967296 from rfl];omega),zzq0,zfQ,zzq0];show some ((tmK 10 (bytes:=t.bytes) (bits:=8*(t.bytes.size:Int)),p),l)=_;rw [show 8*(t.bytes.size:Int)=t.bits by omega,<-he]
  ·have hh:zH t=77::(beN 4 t.bytes.size++(UInt8.ofNat (t.bits%8).toNat::t.bytes.data.toList)):=by unfold zH;rw [if_neg k1,if_neg k2,if_neg k3,if_neg k4,if_neg k5,if_neg k6,if_neg k7,if_neg k8,if_neg k9,if_pos k10,if_neg c]
   simp only [hi,hh,List.flatMap_nil,List.append_nil,List.map_nil,List.sum_nil,Nat.add_zero];refine⟨77,beN 4 (t.bytes.size:Nat)++(UInt8.ofNat (t.bits%8).toNat::(t.bytes.data.toList++l)),by simp,by omega,?_⟩;unfold zcZ;rw [if_neg (by omega),if_neg (by omega),if_neg (by omega),if_neg (by omega),if_neg (by omega),if_neg (by omega),if_neg (by omega),if_neg (by omega),if_pos rfl];rw [zfa (by rw [show(256:Nat)^4=4294967296 from rfl];omega),zzq0,zcj (by omega),zzq0,if_pos (by omega),zfQ,zzq0];show some ((tmK 10 (bytes:=t.bytes) (bits:=8*((t.bytes.size:Int)-1)+((t.bits%8).toNat:Int)),p),l)=_;rw [show 8*((t.bytes.size:Int)-1)+((t.bits%8).toNat:Int)=t.bits by omega,<-he]
 ·exfalso
  have h36: ¬(t.kind=3∨t.kind=6):=by omega
  unfold okK at hk;rw [if_neg k1,if_neg k2,if_neg h36,if_neg k4,if_neg k5,if_neg k7,if_neg k8,if_neg k9,if_neg k10]at hk;exact absurd hk (by decide)
theorem ziK: ∀(f p:Nat) (t:Tm) (l:List UInt8),zj f t=true->OkF f t->p+zW f t<=2000->zA f p (zV f t++l)=some ((t,p+zW f t),l)
 |0,p,t,l,h,_,_=>absurd h (by simp [zj])
 |f+1,p,t,l,h,ho,hp=>by
  unfold zj at h;rw [Bool.and_eq_true,List.all_eq_true]at h;unfold zW at hp ⊢;have H: ∀x∈t.items,∀p l,p+zW f x<=2000->zA f p (zV f x++l)=some ((x,p+zW f x),l):=fun x hx p l hp=>ziK f p x l (h.2 x hx) (ho.2 x hx) hp
  obtain⟨tag,l1,e1,e2,e3⟩:=zqL (f:=f) (zA f) t (p+1) l h.1 ho.1 H (fun x hx=>zpf (h.2 x hx)) (by omega);show zA (f+1) p (zH t++t.items.flatMap (zV f)++l)=_;unfold zA;rw [if_pos (by omega)];have hb:zK (zH t++t.items.flatMap (zV f)++l)=some (tag,l1):=by rw [e1];exact zcj e2 l1
  rw [hb,zzq0];show zcZ (zA f) (p+1) _ tag l1=_;rw [e3,Nat.add_assoc]
theorem zi3 {f:Nat}: ∀(ts:List Tm),(∀x∈ts,(zW f x:Int)<=zx f x)->((ts.map (zW f)).sum:Int)<=zbP (ts.map (zx f))
 |[],_=>Int.le_refl _
 |x::ts,h=>by
  have h1:=h x (List.mem_cons_self ..);have h2:=zi3 ts fun y hy=>h y (List.mem_cons_of_mem _ hy)
  rw [List.map_cons,List.sum_cons,List.map_cons];show _<=zx f x+zbP (ts.map (zx f));rw [Int.natCast_add];omega
theorem zep: ∀(f:Nat) (t:Tm),zj f t=true->(zW f t:Int)<=zx f t
 |0,t,h=>absurd h (by simp [zj])
 |f+1,t,h=>by
  unfold zj zcH at h;rw [Bool.and_eq_true,Bool.and_eq_true,List.all_eq_true]at h;have h1:=(zg9 h.1.1).2;have h2:=zi3 t.items fun x hx=>zep f x (h.2 x hx)
  show((1+(t.items.map (zW f)).sum:Nat):Int)<=zbc t+zbP (t.items.map (zx f));rw [Int.natCast_add];omega
theorem zoa {f:Nat} {t:Tm} (hv:zD f t=true) (ho:OkF f t) (l:List UInt8):zA f 0 (zV f t++l)=some ((t,zW f t),l):=by
 unfold zD at hv;rw [Bool.and_eq_true,decide_eq_true_eq]at hv;have:=zep f t hv.1;have h:=ziK f 0 t l hv.1 ho (by omega)
 rwa [Nat.zero_add]at h
def zhm (G:Tm->Prop) (T:Nat->List UInt8->Option ((Tm × Nat) × List UInt8)):Prop:=
 ∀p l t p' l',T p l=some ((t,p'),l')->p<=2000->l.length<=maxLen->G t/\p<=p'/\p'<=2000/\l'.length<=l.length
theorem zb6 {l l2:List UInt8} {n:Nat} (h:zK l=some (n,l2)):n<256/\l2.length<=l.length:=by
 have e:=zb7 h;exact⟨e.2,by rw [e.1,zzq13];omega⟩
theorem zcL {k:Nat} {l l2:List UInt8} {n:Nat} (h:zbF k l=some (n,l2)):n<256^k/\l2.length<=l.length:=by
 have e:=zcT h;exact⟨e.2,by rw [e.1,zzq1];omega⟩
theorem zfO {k:Nat} {l l2:List UInt8} {b:ByteArray} (h:zci k l=some (b,l2)):b.size=k/\b.size<=l.length/\l2.length<=l.length:=by
 have e:=zey h;have:b.data.toList.length=b.size:=rfl;exact⟨e.2,by rw [e.1,zzq1];omega,by rw [e.1,zzq1];omega⟩
theorem zfj {l l2:List UInt8} {b:ByteArray} (h:zcc l=some (b,l2)):b.size<256/\l2.length<=l.length:=by
 have e:=zeM h;exact⟨e.2,by rw [e.1,zzq1];omega⟩
theorem znK {m:Nat} {b:ByteArray} {n:Int} (h:zd9 m b=some n):I64 n:=by
 unfold zd9 at h;unfold I64;split at h
 ·exact zz69
 split at h
 ·exact zz75
 ·exact zz75
theorem zlY {l l2:List UInt8} {n:Int} (h:zdp l=some (n,l2)):I64 n/\l2.length<=l.length:=by
 unfold zdp at h;obtain⟨x,hx,h⟩:=zzO.1 h;obtain⟨y,hy,h⟩:=zzO.1 h;split at h
 ·obtain⟨z,hz,h⟩:=zzO.1 h
  obtain⟨v,hv,h⟩:=zzO.1 h;simp only [zzX1]at h;have e1:=zb6 (n:=x.1) (l2:=x.2) hx;have e2:=zb6 (n:=y.1) (l2:=y.2) hy;have e3:=zfO (b:=z.1) (l2:=z.2) hz;exact⟨h.1▸znK hv,by rw [<-h.2];omega⟩
 ·exact zz69
theorem ziU {G:Tm->Prop} {T:Nat->List UInt8->Option ((Tm × Nat) × List UInt8)} (H:zhm G T): ∀(n p:Nat) (l:List UInt8) (ts:List Tm) (p':Nat) (l':List UInt8),zcb T n p l=some ((ts,p'),l')->p<=2000->l.length<=maxLen ->
  (∀x∈ts,G x)/\ts.length=n/\p<=p'/\p'<=2000/\l'.length<=l.length
 |0,p,l,ts,p',l',h,hp,hl=>by
  simp only [zcb,Option.some.injEq,Prod.mk.injEq]at h;obtain⟨⟨rfl,rfl⟩,rfl⟩:=h;exact⟨fun x hx=>absurd hx (by simp),rfl,zzL _,hp,zzL _⟩
 |n+1,p,l,ts,p',l',h,hp,hl=>by
  unfold zcb at h;obtain⟨x,hx,h⟩:=zzO.1 h;obtain⟨y,hy,h⟩:=zzO.1 h;simp only [zzX1]at h;obtain⟨⟨rfl,rfl⟩,rfl⟩:=h;have e1:=H p l x.1.1 x.1.2 x.2 hx hp hl;have e2:=ziU H n x.1.2 x.2 y.1.1 y.1.2 y.2 hy e1.2.2.1 (by omega);refine⟨fun z hz=>?_,by rw [zzq13,e2.2.1],by omega,by omega,by omega⟩;rcases List.mem_cons.1 hz with rfl|hz
  ·exact e1.1
  ·exact e2.1 z hz
theorem zi7 {G:Tm->Prop} {T:Nat->List UInt8->Option ((Tm × Nat) × List UInt8)} (H:zhm G T) {n p:Nat} {l:List UInt8} {ts:List Tm} {p':Nat} {l':List UInt8} (h:zca T n p l=some ((ts,p'),l')) (hp:p<=2000) (hl:l.length<=maxLen):
  (∀x∈ts,G x)/\ts.length<=2000/\p<=p'/\p'<=2000/\l'.length<=l.length:=by
 unfold zca at h;split at h
 ·next c=>have:=ziU H n p l ts p' l' h hp hl;exact⟨this.1,by omega,this.2.2⟩
 ·exact zz69
theorem zfE {k int gen:Int} {name func:ByteArray} {arity:Int} {items:List Tm} {bytes:ByteArray} {bits:Int} (h1:I64 k) (h2:I64 int) (h3:I64 gen) (h4:name.size<=maxLen) (h5:func.size<=maxLen) (h6:I64 arity) (h7:items.length<=maxLen) (h8:bytes.size<=maxLen) (h9:I64 bits):(tmK k int gen name func arity items bytes bits).Ok:=
 ⟨h1,h2,h3,h4,h5,h6,h7,h8,h9⟩
theorem zmw {G:Tm->Prop} {p:Nat} {l:List UInt8} {t:Tm} {p':Nat} {l':List UInt8} (h:zeF p l=some ((t,p'),l')):(t.Ok/\ ∀x∈t.items,G x)/\p'=p/\l'.length<=l.length:=by
 unfold zeF at h;obtain⟨x,hx,h⟩:=zzO.1 h;obtain⟨y,hy,h⟩:=zzO.1 h;obtain⟨z,hz,h⟩:=zzO.1 h;split at h
 ·obtain⟨q,hq,h⟩:=zzO.1 h
  simp only [zzX1]at h;obtain⟨⟨rfl,rfl⟩,rfl⟩:=h;have e1:=zfj (b:=x.1) (l2:=x.2) hx;have e2:=zfj (b:=y.1) (l2:=y.2) hy;have e3:=zb6 (n:=z.1) (l2:=z.2) hz;have e4:=zb6 (n:=q.1) (l2:=q.2) hq;refine⟨⟨zfE (by unfold I64;omega) (by unfold I64;omega) (by unfold I64;omega) (by unfold maxLen;omega) (by unfold maxLen;omega) (by unfold I64;omega) (zzZ _) (zzZ _) (by unfold I64;omega),fun x hx=>absurd hx (by simp [tmK,Tm.items])⟩,rfl,by omega⟩
 ·exact zz69
theorem zk1 {G:Tm->Prop} {T:Nat->List UInt8->Option ((Tm × Nat) × List UInt8)} (H:zhm G T) {p:Nat} {l:List UInt8} {t:Tm} {p':Nat} {l':List UInt8} (h:zd7 T p l=some ((t,p'),l')) (hp:p<=2000) (hl:l.length<=maxLen):(t.Ok/\ ∀x∈t.items,G x)/\p<=p'/\p'<=2000/\l'.length<=l.length:=by
 unfold zd7 at h;obtain⟨a,ha,h⟩:=zzO.1 h;obtain⟨b,hb,h⟩:=zzO.1 h;obtain⟨c,hc,h⟩:=zzO.1 h;obtain⟨d,hd,h⟩:=zzO.1 h;obtain⟨e,he,h⟩:=zzO.1 h;obtain⟨q,hq,h⟩:=zzO.1 h;simp only [zzX1]at h;obtain⟨⟨rfl,rfl⟩,rfl⟩:=h;have e1:=zb6 (n:=a.1) (l2:=a.2) ha;have e2:=zcL (n:=b.1) (l2:=b.2) hb;have e3:=zb6 (n:=c.1) (l2:=c.2) hc;have e4:=zfj (b:=d.1) (l2:=d.2) hd;have e5:=zcL (n:=e.1) (l2:=e.2) he;have e6:=zi7 H (ts:=q.1.1) (p':=q.1.2) (l':=q.2) hq hp (by omega);rw [show(256:Nat)^2=65536 from rfl]at e2;rw [show(256:Nat)^4=4294967296 from rfl]at e5;exact⟨⟨zfE (by unfold I64;omega) (by unfold I64;omega) (by unfold I64;omega) (by unfold maxLen;omega) (zzZ _) (by unfold I64;omega) (by unfold maxLen;omega) (zzZ _) (by unfold I64;omega),e6.1⟩,e6.2.2.1,e6.2.2.2.1,by omega⟩
theorem zq0 {G:Tm->Prop} {T:Nat->List UInt8->Option ((Tm × Nat) × List UInt8)} (H:zhm G T) {p:Nat} {l:List UInt8} {t:Tm} {p':Nat} {l':List UInt8} (h:zc3 T p l=some ((t,p'),l')) (hp:p<=2000) (hl:l.length<=maxLen):(t.Ok/\ ∀x∈t.items,G x)/\p<=p'/\p'<=2000/\l'.length<=l.length:=by
 unfold zc3 at h;obtain⟨x,hx,h⟩:=zzO.1 h;have e1:=zb6 (n:=x.1) (l2:=x.2) hx;split at h
 ·have:=zmw (G:=G) h;exact⟨this.1,by omega,by omega,by omega⟩
 split at h
 ·have:=zk1 H h hp (by omega);exact⟨this.1,this.2.1,this.2.2.1,by omega⟩
 ·exact zz69
theorem zsk {n:Nat} (h:n<4294967296):I64 (zbZ n):=by unfold zbZ I64;split<;>omega
theorem zrM {G:Tm->Prop} {T:Nat->List UInt8->Option ((Tm × Nat) × List UInt8)} (H:zhm G T) {p tag:Nat} {l0 l:List UInt8} {t:Tm} {p':Nat} {l':List UInt8} (h:zcZ T p l0 tag l=some ((t,p'),l')) (hp:p<=2000) (hl0:l0.length<=maxLen) (hl:l.length<=l0.length):
  (t.Ok/\ ∀x∈t.items,G x)/\p<=p'/\p'<=2000/\l'.length<=l0.length:=by
 have h256:(256:Nat)^4=4294967296:=rfl;have no: ∀x∈([]:List Tm),G x:=fun x hx=>absurd hx (by simp)
 unfold zcZ at h;by_cases c:tag=97
 ·rw [if_pos c]at h
  obtain⟨x,hx,h⟩:=zzO.1 h;simp only [zzX1]at h;obtain⟨⟨rfl,rfl⟩,rfl⟩:=h;have e1:=zb6 (n:=x.1) (l2:=x.2) hx;exact zz78
 rw [if_neg c]at h;clear c;by_cases c:tag=98
 ·rw [if_pos c]at h
  obtain⟨x,hx,h⟩:=zzO.1 h;have e1:=zcL (n:=x.1) (l2:=x.2) hx;split at h
  ·simp only [zzX1]at h
   obtain⟨⟨rfl,rfl⟩,rfl⟩:=h;exact⟨⟨zfE (by unfold I64;omega) (zsk (by omega)) (by unfold I64;omega) (zzZ _) (zzZ _) (by unfold I64;omega) (zzZ _) (zzZ _) (by unfold I64;omega),no⟩,zzL _,hp,by omega⟩
  ·exact zz69
 rw [if_neg c]at h;clear c;by_cases c:tag=110
 ·rw [if_pos c]at h
  obtain⟨x,hx,h⟩:=zzO.1 h;simp only [zzX1]at h;obtain⟨⟨rfl,rfl⟩,rfl⟩:=h;have e1:=zlY (n:=x.1) (l2:=x.2) hx;exact⟨⟨zfE (by unfold I64;omega) e1.1 (by unfold I64;omega) (zzZ _) (zzZ _) (by unfold I64;omega) (zzZ _) (zzZ _) (by unfold I64;omega),no⟩,zzL _,hp,by omega⟩
 rw [if_neg c]at h;clear c;by_cases c:tag=119
 ·rw [if_pos c]at h
  obtain⟨x,hx,h⟩:=zzO.1 h;obtain⟨y,hy,h⟩:=zzO.1 h;simp only [zzX1]at h;obtain⟨⟨rfl,rfl⟩,rfl⟩:=h;have e1:=zb6 (n:=x.1) (l2:=x.2) hx;have e2:=zfO (b:=y.1) (l2:=y.2) hy;exact⟨⟨zfE (by unfold I64;omega) (by unfold I64;omega) (by unfold I64;omega) (by unfold maxLen;omega) (zzZ _) (by unfold I64;omega) (zzZ _) (zzZ _) (by unfold I64;omega),no⟩,zzL _,hp,by omega⟩
 rw [if_neg c]at h;clear c;by_cases c:tag=104
 ·rw [if_pos c]at h
  obtain⟨x,hx,h⟩:=zzO.1 h;obtain⟨y,hy,h⟩:=zzO.1 h;simp only [zzX1]at h;obtain⟨⟨rfl,rfl⟩,rfl⟩:=h;have e1:=zb6 (n:=x.1) (l2:=x.2) hx;exact zz77
 rw [if_neg c]at h;clear c;by_cases c:tag=106
 ·rw [if_pos c]at h
  simp only [zzX1]at h;obtain⟨⟨rfl,rfl⟩,rfl⟩:=h;exact zz78
 rw [if_neg c]at h;clear c;by_cases c:tag=108
 ·rw [if_pos c]at h
  obtain⟨x,hx,h⟩:=zzO.1 h;obtain⟨y,hy,h⟩:=zzO.1 h;simp only [zzX1]at h;obtain⟨⟨rfl,rfl⟩,rfl⟩:=h;have e1:=zcL (n:=x.1) (l2:=x.2) hx;exact zz77
 rw [if_neg c]at h;clear c;by_cases c:tag=109
 ·rw [if_pos c]at h
  obtain⟨x,hx,h⟩:=zzO.1 h;obtain⟨y,hy,h⟩:=zzO.1 h;simp only [zzX1]at h;obtain⟨⟨rfl,rfl⟩,rfl⟩:=h;have e1:=zcL (n:=x.1) (l2:=x.2) hx;have e2:=zfO (b:=y.1) (l2:=y.2) hy;exact zz79
 rw [if_neg c]at h;clear c;by_cases c:tag=77
 ·rw [if_pos c]at h
  obtain⟨x,hx,h⟩:=zzO.1 h;obtain⟨y,hy,h⟩:=zzO.1 h;split at h
  ·obtain⟨z,hz,h⟩:=zzO.1 h
   simp only [zzX1]at h;obtain⟨⟨rfl,rfl⟩,rfl⟩:=h;have e1:=zcL (n:=x.1) (l2:=x.2) hx;have e2:=zb6 (n:=y.1) (l2:=y.2) hy;have e3:=zfO (b:=z.1) (l2:=z.2) hz;exact zz79
  ·exact zz69
 rw [if_neg c]at h;clear c;by_cases c:tag=88
 ·rw [if_pos c]at h
  obtain⟨x,hx,h⟩:=zzO.1 h;obtain⟨y,hy,h⟩:=zzO.1 h;obtain⟨z,hz,h⟩:=zzO.1 h;split at h
  ·obtain⟨q,hq,h⟩:=zzO.1 h
   simp only [zzX1]at h;obtain⟨⟨rfl,rfl⟩,rfl⟩:=h;have e1:=zfj (b:=x.1) (l2:=x.2) hx;have e2:=zcL (n:=y.1) (l2:=y.2) hy;exact zz76
  ·exact zz69
 rw [if_neg c]at h;clear c;by_cases c:tag=90
 ·rw [if_pos c]at h
  obtain⟨x,hx,h⟩:=zzO.1 h;split at h
  ·obtain⟨y,hy,h⟩:=zzO.1 h
   obtain⟨z,hz,h⟩:=zzO.1 h;obtain⟨q,hq,h⟩:=zzO.1 h;simp only [zzX1]at h;obtain⟨⟨rfl,rfl⟩,rfl⟩:=h;have e1:=zcL (n:=x.1) (l2:=x.2) hx;have e2:=zfj (b:=y.1) (l2:=y.2) hy;exact zz76
  ·exact zz69
 rw [if_neg c]at h;clear c;exact zq0 H h hp hl0
theorem zfY: ∀(f:Nat),zhm (OkF f) (zA f)
 |0,p,l,t,p',l',h,_,_=>absurd h (by simp [zA])
 |f+1,p,l,t,p',l',h,hp,hl=>by
  unfold zA at h;split at h
  ·next c=>
   obtain⟨x,hx,h⟩:=zzO.1 h;have e1:=zb6 (n:=x.1) (l2:=x.2) hx;have:=zrM (zfY f) h c hl e1.2;exact⟨this.1,by omega,this.2.2⟩
  ·exact zz69
open Go.RowKit Go.Shelf
def StaysE (w w':World):Prop:= ∀(k:Nat) (cs:Array Value) (t:TypeId) (fr:Nat × Nat),w.heap[k]?=some (.cells cs t fr)->t≠5->t≠117->w'.heap[k]?=some (.cells cs t fr)
theorem StaysE.refl (w:World):StaysE w w:=fun _ _ _ _ h _ _=>h
theorem StaysE.trans {a b c:World} (h:StaysE a b) (k:StaysE b c):StaysE a c:=fun i cs t fr hi h1 h2=>k i cs t fr (h i cs t fr hi h1 h2) h1 h2
theorem StaysE.below {a b c:World} (h:StaysE a b) (hb:Below b.heap.size b c):StaysE a c:=fun i cs t fr hi h1 h2=>by
 have:=h i cs t fr hi h1 h2;exact(hb.block i (zc this)).trans this
theorem StaysE.alloc {a b:World} (h:StaysE a b) (o:Obj):StaysE a (b.alloc o):=h.below ((zzR _ _).alloc (zzL _) o)
theorem StaysE.grown {a b c:World} {B size n:Nat} {bv:Value} {xs:List Value} (h:StaysE a b) (ho:b.ownsRow B 5 size bv n xs) (hg:b.grownBy c bv.ownBlock):StaysE a c:=fun i cs t fr hi h1 h2=>by
 exact zz56
theorem StaysE.store {a b:World} {r o:Nat} {cs0:Array Value} {fr0:Nat × Nat} (h:StaysE a b) (hr:b.heap[r]?=some (.cells cs0 117 fr0)) (v:Value):StaysE a (b.setCell ⟨r,o,none⟩ v):=fun i cs t fr hi h1 h2=>by
 exact zz57
def WtAt (B b:Nat) (l:List UInt8) (w:World):Prop:=B<=b/\B<=w.heap.size/\ ∃p bv,(p= .pointer none∨p= .pointer (some ⟨b,0,none⟩))/\w.heap[b]?=some (.cells #[p,bv] 117 (0,0))/\w.ownsRow B 5 1 bv l.length (zy l)/\bv.ownBlock≠some b
theorem WtAt.below {B b:Nat} {l:List UInt8} {w w':World} (h:WtAt B b l w) (hb:Below w.heap.size w w'):WtAt B b l w':=by
 obtain⟨h1,h2,p,bv,hp,hbk,hown,hne⟩:=h;exact⟨h1,zzY h2 hb.size,p,bv,hp,(hb.block b (zc hbk)).trans hbk,hown.kept (zbf hb none) (by cases hv:bv.ownBlock<;>simp),hne⟩
theorem WtAt.lt {B b:Nat} {l:List UInt8} {w:World} (h:WtAt B b l w):b<w.heap.size:=by
 obtain⟨_,_,p,bv,_,hbk,_⟩:=h;exact zc hbk
def Zed (b z:Nat) (w:World):Prop:=b<z/\ ∀p bv,w.heap[b]?=some (.cells #[p,bv] 117 (0,0))-> ∀k,bv.ownBlock=some k->k<z
theorem Zed.below {b z:Nat} {w w':World} (h:Zed b z w) (hl:b<w.heap.size) (hb:Below w.heap.size w w'):Zed b z w':=
 ⟨h.1,fun p bv hp=>h.2 p bv ((hb.block b hl).symm.trans hp)⟩
theorem zbr (l:List UInt8):(zy l).length=l.length:=by simp [zy]
theorem zbC (l:List UInt8): ∀u∈zy l,u.oneCell'=true:=by
 intro u hu;unfold zy at hu;obtain⟨x,_,rfl⟩:=List.mem_map.1 hu
 rfl
theorem zhR {w:World} {T:TypeId} (news:List UInt8) (cs:Array Value) (hcs:cs.toList=zy news): ∀j u,(zy news)[j]?=some u->(w.alloc (.cells cs T)).cell? ((⟨w.heap.size,0,none⟩:Addr).add j)=some u:=by
 intro j u hj;have ha:(⟨w.heap.size,0,none⟩:Addr).add j=⟨w.heap.size,j,none⟩:=by unfold Addr.add;split<;>simp_all
 rw [ha,zzq2 _ _ _ _ _ _ (heap_alloc_new w _),<-hj,<-hcs,Array.getElem?_toList]
theorem zbH {w:World} {B:Nat} {bv:Value} {l:List UInt8} (h:w.ownsRow B 5 1 bv l.length (zy l)) (hne:l≠ []): ∃g cap cur,bv= .slice (some ⟨g,0,none⟩) l.length cap/\B<=g/\w.heap[g]?=some (.cells cur 5 (0,0))/\cur.toList.take l.length=zy l:=by
 rcases h.2 with⟨_,h0⟩|⟨g,cap,cur,rfl,hB,hg,hc,_,hsz,htk⟩
 ·exact absurd (List.eq_nil_of_length_eq_zero h0) hne
 ·rw [Nat.mul_one]at htk
  exact⟨g,cap,cur,rfl,hB,hg,htk⟩
theorem zbM {w:World} {g:Nat} {cur:Array Value} {l:List UInt8} (hg:w.heap[g]?=some (.cells cur 5 (0,0))) (ht:cur.toList.take l.length=zy l): ∀j u,(zy l)[j]?=some u->w.cell? ((⟨g,0,none⟩:Addr).add j)=some u:=by
 intro j u hj;have ha:(⟨g,0,none⟩:Addr).add j=⟨g,j,none⟩:=by unfold Addr.add;split<;>simp_all
 have hjl:j<l.length:=by
  have:=(List.getElem?_eq_some_iff.1 hj).1
  rwa [zbr]at this
 rw [ha,zzq2 _ _ _ _ _ _ hg,<-hj,<-ht,List.getElem?_take_of_lt hjl,Array.getElem?_toList]
theorem zjM (f:Nat):leN f 0= []:=by cases f<;>rfl
theorem zov {w:World} {r o:Nat} {cs:Array Value} {T:TypeId} {fr:Nat × Nat} (h:w.heap[r]?=some (.cells cs T fr)) (ho:cs.size<=o):w.cell? ⟨r,o,none⟩=none:=by
 rw [zzq2 w r o _ _ _ h];exact Array.getElem?_eq_none ho
theorem zoj {w w':World} {r b o:Nat} (hg:w.grownBy w' (some r)) (hb:b<w.heap.size) (hne:b≠r):w'.cell? ⟨b,o,none⟩=w.cell? ⟨b,o,none⟩:=by
 have h:=hg.block b hb (fun e=>hne (Option.some.inj e));unfold World.cell?;rw [h]
theorem SlAt.grown {α:Type} {w w':World} {size r:Nat} {R R':List Value->α->Prop} {ao:Option Addr} {l:List α} {cs:Array Value} {T:TypeId} {fr:Nat × Nat} (h:SlAt w size R ao l) (hg:w.grownBy w' (some r)) (hr:w.heap[r]?=some (.cells cs T fr)) (hsz:cs.size<size) (hR: ∀cs a,R cs a->R' cs a):SlAt w' size R' ao l:=by
 rcases h with h|⟨b,off,e,hB,hx⟩
 ·exact .inl h
 ·by_cases hl:l= []
  ·exact .inl hl
  have hpos:0<l.length:=List.length_pos_iff.2 hl
  have hne:b≠r:=by
   intro c;obtain⟨cs',hlen,hc,-⟩:=hx 0 hpos;have h1:=hc (size-1) (by omega);rw [c,zov hr (by omega),zzq8 (by omega)]at h1;exact absurd h1 (by simp)
  refine .inr ⟨b,off,e,zzW hB hg.size,fun j hj=>?_⟩;obtain⟨cs',hlen,hc,hR'⟩:=hx j hj;exact⟨cs',hlen,fun i hi=>(zoj hg hB hne).trans (hc i hi),hR _ _ hR'⟩
theorem TmAt.grown {w w':World} {r:Nat} {cs:Array Value} {T:TypeId} {fr:Nat × Nat} (hg:w.grownBy w' (some r)) (hr:w.heap[r]?=some (.cells cs T fr)) (hsz:cs.size<9): ∀{f:Nat} {vs:List Value} {t:Tm},TmAt w f vs t->TmAt w' f vs t
 |0,_,_,h=>h
 |_+1,_,_,⟨⟨ao,c,e,hs⟩,ho⟩=>⟨⟨ao,c,e,hs.grown hg hr hsz fun _ _ h=>TmAt.grown hg hr hsz h⟩,ho⟩
theorem zC {w a b:World} {o:Option Nat} (h:w.grownBy a o) (hb:Below w.heap.size a b):w.grownBy b o:=
 ⟨hb.os.trans h.os,hb.tape.trans h.tape,hb.output.trans h.output,zzY h.size hb.size,fun k hk hn=>(hb.block k hk).trans (h.block k hk hn)⟩
theorem zbX {w a b:World} {r k:Nat} {x:Obj} (hg:a.grownBy b (some r)) (hr:r<w.heap.size) (hk:w.heap.size<=k) (h:a.heap[k]?=some x):b.heap[k]?=some x:=
 (hg.block k (Array.getElem?_eq_some_iff.1 h).1 (fun e=>by have:=Option.some.inj e;omega)).trans h
structure StX (w0:World) (r:Nat) (s:ByteArray) (l:List UInt8) (p X Y:Nat) (row:Array Value) (wx:World):Prop where
 rd:RdL r s l p wx
 gr:w0.grownBy wx (some r)
 x:wx.heap[X]?=some (.cells zo 47 (0,0))
 y:wx.heap[Y]?=some (.cells row 47 (0,0))
 hr:r<w0.heap.size
 hX:X=w0.heap.size
 hY:X<Y
theorem StX.call {w0:World} {r:Nat} {s:ByteArray} {l:List UInt8} {p X Y:Nat} {row:Array Value} {wx wy:World} (h:StX w0 r s l p X Y row wx) {l':List UInt8} {p':Nat} (hr:RdL r s l' p' wy) (hg:wx.grownBy wy (some r)):StX w0 r s l' p' X Y row wy:=
 ⟨hr,zh h.gr hg,zbX hg h.hr (Nat.le_of_eq h.hX.symm) h.x,zbX hg h.hr (by have:=h.hX;have:=h.hY;omega) h.y,h.hr,h.hX,h.hY⟩
theorem StX.set {w0:World} {r:Nat} {s:ByteArray} {l:List UInt8} {p X Y:Nat} {row:Array Value} {wx:World} (h:StX w0 r s l p X Y row wx) (j:Nat) (v:Value):StX w0 r s l p X Y (row.setIfInBounds j v) (wx.setCell ⟨Y,j,none⟩ v):=by
 have hY:=h.hY;have hX:=h.hX;have hr:=h.hr;obtain⟨a,ha,hl⟩:=h.rd;have e: ∀k,k≠Y->(wx.setCell ⟨Y,j,none⟩ v).heap[k]?=wx.heap[k]?:=fun k hk=>zzq7 _ _ _ _ (by simpa using hk)
 exact⟨⟨a,(e r (by omega)).trans ha,hl⟩,zC h.gr ((zzR _ _).setCell (show w0.heap.size<=Y by omega) _),(e X (by omega)).trans h.x,zzS _ _ j _ _ v h.y,hr,hX,hY⟩
structure StO (w0:World) (r:Nat) (s:ByteArray) (l:List UInt8) (p X:Nat) (wx:World):Prop where
 rd:RdL r s l p wx
 gr:w0.grownBy wx (some r)
 x:wx.heap[X]?=some (.cells zo 47 (0,0))
 hr:r<w0.heap.size
 hX:X=w0.heap.size
theorem StO.start {r:Nat} {s:ByteArray} {l:List UInt8} {p:Nat} {w:World} (h:RdL r s l p w):StO w r s l p w.heap.size (w.alloc (.cells zo 47)):=
 ⟨h.below ((zzR _ _).alloc (zzL _) _),zC (zb5 w _) ((zzR _ _).alloc (zzL _) _),heap_alloc_new _ _,h.lt,rfl⟩
theorem StO.call {w0:World} {r:Nat} {s:ByteArray} {l:List UInt8} {p X:Nat} {wx wy:World} (h:StO w0 r s l p X wx) {l':List UInt8} {p':Nat} (hr:RdL r s l' p' wy) (hg:wx.grownBy wy (some r)):StO w0 r s l' p' X wy:=
 ⟨hr,zh h.gr hg,zbX hg h.hr (Nat.le_of_eq h.hX.symm) h.x,h.hr,h.hX⟩
theorem StO.new {w0:World} {r:Nat} {s:ByteArray} {l:List UInt8} {p X:Nat} {wx:World} (h:StO w0 r s l p X wx) (row:Array Value):StX w0 r s l p X wx.heap.size row (wx.alloc (.cells row 47)):=by
 have hl:=zc h.x;have hX:=h.hX;exact⟨h.rd.below ((zzR _ _).alloc (zzL _) _),zC h.gr ((zzR _ _).alloc (by omega) _),(Below.heap_alloc _ _ _ hl).trans h.x,heap_alloc_new _ _,h.hr,hX,hl⟩
theorem StX.fin {w0:World} {r:Nat} {s:ByteArray} {l:List UInt8} {p X Y:Nat} {row:Array Value} {wx:World} (h:StX w0 r s l p X Y row wx) (v0 v1 v2 v3 v4 v5 v6 v7 v8:Value):
  RdL r s l p (((((((((wx.setCell ⟨X,0,none⟩ v0).setCell ⟨X,1,none⟩ v1).setCell ⟨X,2,none⟩ v2).setCell ⟨X,3,none⟩ v3).setCell ⟨X,4,none⟩ v4).setCell ⟨X,5,none⟩ v5).setCell ⟨X,6,none⟩ v6).setCell ⟨X,7,none⟩ v7).setCell ⟨X,8,none⟩ v8) /\
  w0.grownBy (((((((((wx.setCell ⟨X,0,none⟩ v0).setCell ⟨X,1,none⟩ v1).setCell ⟨X,2,none⟩ v2).setCell ⟨X,3,none⟩ v3).setCell ⟨X,4,none⟩ v4).setCell ⟨X,5,none⟩ v5).setCell ⟨X,6,none⟩ v6).setCell ⟨X,7,none⟩ v7).setCell ⟨X,8,none⟩ v8) (some r):=by
 have hX:=h.hX;have hr:=h.hr;have hb:=zb1 (B:=X) (zzL X) (zzR X wx) v0 v1 v2 v3 v4 v5 v6 v7 v8;obtain⟨a,ha,hl⟩:=h.rd;refine⟨⟨a,(hb.block r (by omega)).trans ha,hl⟩,zC h.gr ?_⟩;rw [<-hX];exact hb
def SlIn {α:Type} (w:World) (P:Nat->Prop) (size:Nat) (R:List Value->α->Prop) (ao:Option Addr) (l:List α):Prop:=
 l= []∨ ∃b off,ao=some ⟨b,off,none⟩/\P b/\b<w.heap.size/\ ∀j (h:j<l.length),∃cs:List Value,cs.length=size/\(∀i,i<size->w.cell? ⟨b,off+j*size+i,none⟩=cs[i]?)/\R cs l[j]
theorem SlIn.at {α:Type} {w:World} {P:Nat->Prop} {size:Nat} {R R':List Value->α->Prop} {ao:Option Addr} {l:List α} (h:SlIn w P size R ao l) (hR: ∀j (h:j<l.length) cs,R cs l[j]->R' cs l[j]):SlAt w size R' ao l:=by
 rcases h with h|⟨b,off,e,-,hB,hx⟩
 ·exact .inl h
 ·exact .inr ⟨b,off,e,hB,fun j hj=>(hx j hj).elim fun cs ⟨a,c,d⟩=>⟨cs,a,c,hR j hj _ d⟩⟩
theorem SlIn.kept {α:Type} {w w':World} {P P':Nat->Prop} {size:Nat} {R R':List Value->α->Prop} {ao:Option Addr} {l:List α} (h:SlIn w P size R ao l) (hs:w.heap.size<=w'.heap.size)
  (hk: ∀b,P b->b<w.heap.size->w'.heap[b]?=w.heap[b]?) (hP: ∀b,P b->b<w.heap.size->P' b) (hR: ∀cs a,R cs a->R' cs a):SlIn w' P' size R' ao l:=by
 rcases h with h|⟨b,off,e,hb,hB,hx⟩
 ·exact .inl h
 ·refine .inr ⟨b,off,e,hP b hb hB,zzW hB hs,fun j hj=>?_⟩
  obtain⟨cs,hlen,hc,hR'⟩:=hx j hj;exact⟨cs,hlen,fun i hi=>(show w'.cell? ⟨b,off+j*size+i,none⟩=w.cell? ⟨b,off+j*size+i,none⟩by unfold World.cell?;rw [hk b hb hB]).trans (hc i hi),hR _ _ hR'⟩
def TmIn (w:World) (P:Nat->Prop):Nat->List Value->Tm->Prop
 |0,_,_=>False
 |f+1,cs,t=> ∃ao c,cs= [.int .i64 t.kind,.int .i64 t.int,.int .i64 t.gen,.string t.name,.string t.func,.int .i64 t.arity,.slice ao t.items.length c,.string t.bytes,.int .i64 t.bits]/\SlIn w P 9 (TmIn w P f) ao t.items
theorem TmIn.kept {w w':World} {P P':Nat->Prop} (hs:w.heap.size<=w'.heap.size) (hk: ∀b,P b->b<w.heap.size->w'.heap[b]?=w.heap[b]?) (hP: ∀b,P b->b<w.heap.size->P' b):
  ∀{f:Nat} {cs:List Value} {t:Tm},TmIn w P f cs t->TmIn w' P' f cs t
 |0,_,_,h=>h
 |_+1,_,_,⟨ao,c,e,h⟩=>⟨ao,c,e,h.kept hs hk hP fun _ _ h=>TmIn.kept hs hk hP h⟩
theorem TmIn.ok {w:World} {P:Nat->Prop}: ∀{f:Nat} {cs:List Value} {t:Tm},TmIn w P f cs t->OkF f t->TmAt w f cs t
 |0,_,_,h,_=>h
 |f+1,_,_,⟨ao,c,e,h⟩,ho=>⟨⟨ao,c,e,h.at fun j hj cs hx=>TmIn.ok hx (ho.2 _ (List.getElem_mem hj))⟩,ho.1⟩
theorem TmIn.below {w w':World} {P:Nat->Prop} (hb:Below w.heap.size w w') {f:Nat} {cs:List Value} {t:Tm} (h:TmIn w P f cs t):TmIn w' P f cs t:=h.kept hb.size (fun b _ hl=>hb.block b hl) fun b h _=>h
theorem TmIn.len {w:World} {P:Nat->Prop} {f:Nat} {cs:List Value} {t:Tm} (h:TmIn w P f cs t):cs.length=9:=by
 cases f with
 |zero=>exact h.elim
 |succ f=>obtain⟨ao,c,e,-⟩:=h;rw [e];rfl
def RowsIn {α:Type} (size:Nat) (R:List Value->α->Prop):List Value->List α->Prop
 |xs,[]=>xs= []
 |xs,t::ts=> ∃cs ys,xs=cs++ys/\cs.length=size/\R cs t/\RowsIn size R ys ts
theorem RowsIn.mono {α:Type} {size:Nat} {R R':List Value->α->Prop} (hR: ∀cs a,R cs a->R' cs a): ∀{ts:List α} {xs:List Value},RowsIn size R xs ts->RowsIn size R' xs ts
 |[],_,h=>h
 |_::_,_,⟨cs,ys,a,b,c,d⟩=>⟨cs,ys,a,b,hR _ _ c,RowsIn.mono hR d⟩
theorem RowsIn.snoc {α:Type} {size:Nat} {R:List Value->α->Prop} {cs:List Value} {t:α} (hl:cs.length=size) (hR:R cs t): ∀{ts:List α} {xs:List Value},RowsIn size R xs ts->RowsIn size R (xs++cs) (ts++ [t])
 |[],xs,h=>⟨cs,[],by rw [show xs= []from h];simp,hl,hR,rfl⟩
 |_::_,_,⟨cs',ys,a,b,c,d⟩=>⟨cs',ys++cs,by rw [a,zzq4],b,c,RowsIn.snoc hl hR d⟩
theorem RowsIn.get {α:Type} {size:Nat} {R:List Value->α->Prop}: ∀{ts:List α} {xs:List Value},RowsIn size R xs ts-> ∀j (h:j<ts.length),∃cs:List Value,cs.length=size/\(∀i,i<size->xs[j*size+i]?=cs[i]?)/\R cs ts[j]
 |[],_,_,j,h=>absurd h (Nat.not_lt_zero _)
 |t::ts,_,⟨cs,ys,a,b,c,d⟩,0,_=>⟨cs,b,fun i hi=>by rw [a,Nat.zero_mul,Nat.zero_add,List.getElem?_append_left (by omega)],c⟩
 |t::ts,_,⟨cs,ys,a,b,c,d⟩,j+1,h=>by
  obtain⟨cs',h1,h2,h3⟩:=RowsIn.get d j (by simpa using h);refine⟨cs',h1,fun i hi=>?_,h3⟩;rw [a,List.getElem?_append_right (by rw [b,Nat.succ_mul];omega),<-h2 i hi];congr 1;rw [b,Nat.succ_mul];omega
theorem zjo {α:Type} {w:World} {B size:Nat} {e:TypeId} {v:Value} {xs:List Value} {ts:List α} {R:List Value->α->Prop} (h:w.ownsRow B e size v ts.length xs) (hr:RowsIn size R xs ts): ∃ao c,v= .slice ao ts.length c/\SlIn w (B<= ·) size R ao ts:=by
 rcases h.2 with⟨rfl,h0⟩|⟨g,cap,cur,rfl,hB,hg,h1,h2,h3,h4⟩
 ·exact⟨none,0,by rw [h0],.inl (List.eq_nil_of_length_eq_zero h0)⟩
 ·refine⟨_,_,rfl,.inr ⟨g,0,rfl,hB,zc hg,fun j hj=>?_⟩⟩
  obtain⟨cs,k1,k2,k3⟩:=hr.get j hj;refine⟨cs,k1,fun i hi=>?_,k3⟩;rw [Nat.zero_add,zzq2 w g _ _ _ _ hg,<-k2 i hi,<-h4,<-Array.getElem?_toList,List.getElem?_take]
  have:j*size+i<ts.length*size:=by
   have h5:(j+1)*size<=ts.length*size:=Nat.mul_le_mul_right _ hj;rw [Nat.succ_mul]at h5;omega
  rw [if_pos this]
theorem zjL:(Tryz.prog.info? 47).map (fun i=>(i.zero,i.size,i.bytes))=some (some (.agg #[.int .i64 0,.int .i64 0,.int .i64 0,.string ⟨#[]⟩,.string ⟨#[]⟩,.int .i64 0,.slice none 0 0,.string ⟨#[]⟩,.int .i64 0]),9,112):=by kernel_rfl
structure AccAt (B:Nat) (f:Nat) (v:Value) (ts:List Tm) (w:World):Prop where
 own: ∃xs,w.ownsRow B 47 9 v ts.length xs/\RowsIn 9 (TmIn w (fun b=>B<=b/\v.ownBlock≠some b) f) xs ts
theorem AccAt.nil (B f:Nat) (w:World):AccAt B f (.slice none 0 0) [] w:=⟨⟨[],World.ownsRow_nil _ _ _ _,rfl⟩⟩
theorem AccAt.grown {B f r:Nat} {v:Value} {ts:List Tm} {w w':World} (h:AccAt B f v ts w) (hg:w.grownBy w' (some r)) (hr:r<B):AccAt B f v ts w':=by
 obtain⟨xs,ho,hR⟩:=h.own;exact⟨xs,ho.kept hg (.inr fun e=>by have:=(ho.lt r e).1;omega),hR.mono fun _ _ h=>h.kept hg.size (fun b hb hl=>hg.block b hl fun e=>by have:=Option.some.inj e;omega) fun b hb _=>hb⟩
theorem AccAt.below {B f:Nat} {v:Value} {ts:List Tm} {w w':World} (h:AccAt B f v ts w) (hb:Below w.heap.size w w'):AccAt B f v ts w':=by
 obtain⟨xs,ho,hR⟩:=h.own;exact⟨xs,ho.kept (zbf hb none) (by cases v.ownBlock<;>simp),hR.mono fun _ _ h=>h.below hb⟩
theorem AccAt.sl {B f:Nat} {v:Value} {ts:List Tm} {w:World} (h:AccAt B f v ts w): ∃ao c,v= .slice ao ts.length c/\SlIn w (B<= ·) 9 (TmIn w (B<= ·) f) ao ts:=by
 obtain⟨xs,ho,hR⟩:=h.own;exact zjo ho (hR.mono fun _ _ h=>h.kept (zzL _) (fun _ _ _=>rfl) fun b hb _=>hb.1)
theorem AccAt.app {B f:Nat} {v v':Value} {ts:List Tm} {w0 w w':World} {xs cs:List Value} {t:Tm} (h0:AccAt B f v ts w0) (hlt: ∀k,v.ownBlock=some k->k<w0.heap.size) (ho:w.ownsRow B 47 9 v ts.length xs) (hR:RowsIn 9 (TmIn w (fun b=>B<=b/\v.ownBlock≠some b) f) xs ts)
  (ht:TmIn w (w0.heap.size<= ·) f cs t) (hB:B<=w0.heap.size) (hg:w.grownBy w' v.ownBlock) (hat: ∀k,v'.ownBlock=some k->v.ownBlock=some k∨w.heap.size<=k) (ho':w'.ownsRow B 47 9 v' (ts.length+1) (xs++cs)):AccAt B f v' (ts++ [t]) w':=by
 have hne: ∀b,v.ownBlock≠some b->b<w.heap.size->v'.ownBlock≠some b:=fun b h1 h2 e=>by
  rcases hat b e with h|h
  ·exact h1 h
  ·omega
 refine⟨xs++cs,by rw [zzq1];exact ho',RowsIn.snoc ht.len (ht.kept hg.size (fun b hb hl=>hg.block b hl fun e=>by have:=hlt b e.symm;omega) fun b hb hl=>⟨zzY hB hb,hne b (fun e=>by have:=hlt b e;omega) hl⟩) (hR.mono fun _ _ h=>h.kept hg.size (fun b hb hl=>hg.block b hl fun e=>hb.2 e.symm) fun b hb hl=>⟨hb.1,hne b hb.2 hl⟩)⟩
def tmL (t:Tm) (so:Option Addr) (c:Nat):List Value:=[.int .i64 t.kind,.int .i64 t.int,.int .i64 t.gen,.string t.name,.string t.func,.int .i64 t.arity,.slice so t.items.length c,.string t.bytes,.int .i64 t.bits]
def zbI (r:Nat) (s:ByteArray) (f:Nat) (w:World) (d:Option ((Tm × Nat) × List UInt8)) (e:Ending) (w':World):Prop:=
 match d with
 |none=>e=refused/\w.grownBy w' (some r)
 |some ((t,p),l)=>(∃so c,e= .returned (.agg #[.int .i64 t.kind,.int .i64 t.int,.int .i64 t.gen,.string t.name,.string t.func,.int .i64 t.arity,.slice so t.items.length c,.string t.bytes,.int .i64 t.bits])/\TmIn w' (w.heap.size<= ·) f (tmL t so c) t)/\RdL r s l p w'/\w.grownBy w' (some r)
def zoc (r:Nat) (s:ByteArray) (f:Nat) (w:World) (d:Option ((List Tm × Nat) × List UInt8)) (e:Ending) (w':World):Prop:=
 match d with
 |none=>e=refused/\w.grownBy w' (some r)
 |some ((ts,p),l)=>(∃so c,e= .returned (.slice so ts.length c)/\SlIn w' (w.heap.size<= ·) 9 (TmIn w' (w.heap.size<= ·) f) so ts)/\RdL r s l p w'/\w.grownBy w' (some r)
def zmp (f:Nat):Prop:= ∀(r:Nat) (s:ByteArray) (l:List UInt8) (p:Nat) (w:World),RdL r s l p w->p<=2000->2000<=p+f ->
 Calls Tryz.prog 89 #[.pointer (some ⟨r,0,none⟩)] w (zbI r s f w (zA f p l))
def zgf (f:Nat):Prop:= ∀(r:Nat) (s:ByteArray) (l:List UInt8) (p n:Nat) (w:World),RdL r s l p w->p<=2000->2000<=p+f->n<=1099511627776 ->
 Calls Tryz.prog 117 #[.pointer (some ⟨r,0,none⟩),.int .i64 n] w (zoc r s f w (zca (zA f) n p l))
theorem RdL.grown_new {r:Nat} {s:ByteArray} {l:List UInt8} {p:Nat} {w:World} (h:RdL r s l p w) (o:Obj):RdL r s l p (w.alloc o):=h.below ((zzR _ _).alloc (zzL _) _)
theorem RdL.len {r:Nat} {s:ByteArray} {l:List UInt8} {p:Nat} {w:World} (h:RdL r s l p w):l.length<=maxLen:=by
 obtain⟨a,h1,h2,h3,h4⟩:=h;have:=zdy h2 h3;unfold maxLen;omega
end Go.Proofs.YtlaabicdhkebbaaGreatDoor
