import Derived.Test.YthajedcbgnloeaaGreatDoorW08
import Derived.Test.YthajedcbgnloeaaGreatDoorW09
import Derived.Test.YthajedcbgnloeaaGreatDoorW10
namespace Go.Proofs.YthajedcbgnloeaaGreatDoor
open Go.RowKit
set_option linter.unusedVariables false
set_option linter.unusedSimpArgs false
set_option maxRecDepth 100000
set_option maxHeartbeats 0
def zp5 (w:World) (lo:Option Addr) (u:RUnit) (e:Ending) (w':World):Prop:=
 ∃b,e= .returned (.bool b)/\Below w.heap.size w w'/\(b=false-> ∃f,SlAt w 9 (TmAt w f) lo u.lits/\0<=zbG f u.lits 3000)
theorem zhv (u:RUnit) (lo fo go co:zzA) (lc fc gc cc:Nat) (w:World) (h:UP w u lo fo go co):
  Calls Tryz.prog 5 #[.agg (zzu u lo lc fo fc go gc co cc)] w (zp5 w lo u):=by
 unfold zzu;obtain⟨f,hf⟩:=ze5 h.lits;have HF:=zzH hf;have HU:=zzH h;clear hf;have r1:=h.litsLen;have r2:=h.funcsLen;have r3:=h.funsLen;have r4:=h.codeLen;clear h;go_in;go_wp2_with fail;have hbx:=zd3 w u lo fo go co lc fc gc cc;have hba:Below w.heap.size w (w.alloc (.cells (zzu u lo lc fo fc go gc co cc) 27)):=zzE _ _;generalize w.alloc (.cells (zzu u lo lc fo fc go gc co cc) 27)=Wa at *;have HUa:=zzH (HU.out.below hba);have HBA:=zzH hba;generalize w.heap.size=B at hbx ⊢;have HBX:=zzH hbx;clear hbx hba;go_loopw [3,4] (fun nv iv wr=> ∃(k:Nat) (z:Int),k<=u.code.length/\iv= .int .i64 k/\nv= .int .i64 z/\Below Wa.heap.size Wa wr) (fun _ iv _=>u.code.length-(intOf iv).toNat)
 case atStart=>exact⟨0,_,zzZ _,rfl,rfl,zzR _ _⟩
 case round=>
  obtain⟨k,z,hk,rfl,rfl,hB⟩:=hrel;rename World=>wr
  have hbw:=HBX.out.below hB;have b2:=hbw.c2;have b3:=hbw.c3;have b4:=hbw.c4;have b5:=hbw.c5;clear hbw;by_cases hlt:k<u.code.length
  ·obtain⟨b,off,so,sc,co',cc',go',gc',hao,hb,q0,q1,q2,q3,q4,q5,q6,q7,q8,q9,_,_,_,_,_,_,s1,_,_,_,_,s2,s3⟩:=(HUa.out.below hB).code.ins hlt
   subst hao;unfold maxLen at s1 s2 s3;generalize u.code[k]=x at *;by_cases h24:x.op=24
   ·by_cases h0:0<x.n
    ·exact zz57
    ·exact zz57
   ·exact zz57
  ·by_cases c1:1500<z
   ·exact zz58
   ·by_cases c2:200<u.lits.length
    ·exact zz58
    ·have hd4:decide ((200:Int)<(u.lits.length:Int))=false:=zzD (by omega)
     have hG:=znx f lo lc u.lits 3000 wr ((HF.out.tms HBA.out).tms hB) (by unfold maxLen;omega) (by decide) (by decide);have HD:Hid (decide (zbG f u.lits 3000<0)=false->0<=zbG f u.lits 3000):=zzH (fun e=>by have:=of_decide_eq_false e;omega);generalize decide (zbG f u.lits 3000<0)=q at *;go_wp2_with fail;refine hG.mono ?_;rintro e w5 ⟨rfl,hb5⟩;go_wp2;go_ret;exact⟨q,rfl,HBA.out.trans ((hB.mono HBA.out.size).trans (hb5.mono (zzY HBA.out.size hB.size))),fun e=>⟨f,HF.out,HD.out e⟩⟩
theorem zky {w:World} {lo:zzA} {l:List Tm} {f:Nat} (h:SlAt w 9 (TmAt w f) lo l) (hp:0<=zbG f l 3000): ∃g,SlAt w 9 (TmAt w (g+1)) lo l/\ ∀t∈l,(zR (g+1) t:Int)<=1152921504606846976:=by
 cases f with
 |zero=>obtain rfl:=h.zero;exact⟨0,.inl rfl,fun t ht=>by cases ht⟩
 |succ g=>
  refine⟨g,h,fun t ht=>?_⟩
  have hc:=zi3 (w:=w) (g+1) l 3000 (fun x hx=>by
   obtain⟨j,hj,rfl⟩:=List.getElem_of_mem hx;obtain⟨_,_,_,_,hr⟩:=h.row hj;obtain⟨cs',_,_,h'⟩:=hr j hj;exact⟨cs',h'⟩) hp
  have hm:=zjc (l.map (zR (g+1))) _ (List.mem_map.2 ⟨t,ht,rfl⟩);omega
def rrT:List (List UInt8 × Int × Int):=[([],0,0),([100,115],1,1),([100,115,108],0,255),([100,115,108],2,2),([100,115,110,108],0,200),([100,115,110],1,1),([100,115],1,1),([100,115],1,1),([116],0,0),([115,110,116],1,1),([115,116],1,1),([115,116],2,2),([115,99,116],1,1),([100,115,119,116,108],0,255),([100,115,119,108],0,3),([110,119],0,0),([110],0,0),([110],0,0),([115,110],2,2),([115,110],2,2),([115,110],1,1),([115,110],1,1),([115],2,3),([115],2,3),([110],0,0),([],0,0),([],0,0),([115],2,2),([116],0,0),([],0,0),([115,116],1,1),([100,115,110,116,108],1,1),([100,115,110,116,108],1,1),([100,110,116,108],0,0),([116],0,0),([100,103,108],0,0),([115],0,1),([116],0,0),([],0,0),([116],0,0),([116],0,0)]
def zRow:RRow:=⟨false,false,false,false,false,false,false,false,0,0⟩
def zco (op:Int):RRow:=if zdA op=true then(match rrT[op.toNat]? with|some (l,lo,hi)=>zbc l lo hi|none=>zRow)else zRow
theorem zkr (k:Nat) (h1:1<=k) (h2:k<41):zco (k:Int)=zbc (rrT[k]'h2).1 (rrT[k]'h2).2.1 (rrT[k]'h2).2.2:=by
 unfold zco zdA;rw [if_pos (decide_eq_true (by omega)),zzq11,zzq3 (by exact h2)]
theorem zpf {op:Int} (h: ¬(1<=op/\op<=40)):zco op=zRow:=by
 unfold zco zdA;rw [if_neg (by rw [zzq8];exact h)]
theorem zm1: ∀k:Nat,(h:k<41)->1<=k->(zbc (rrT[k]'h).1 (rrT[k]'h).2.1 (rrT[k]'h).2.2).a=zx (rowT[k]'h).1.toNat 1/\(zbc (rrT[k]'h).1 (rrT[k]'h).2.1 (rrT[k]'h).2.2).b=zx (rowT[k]'h).1.toNat 2/\(zbc (rrT[k]'h).1 (rrT[k]'h).2.1 (rrT[k]'h).2.2).c=zx (rowT[k]'h).1.toNat 4 /\
  (zbc (rrT[k]'h).1 (rrT[k]'h).2.1 (rrT[k]'h).2.2).d=zx (rowT[k]'h).1.toNat 8/\(zbc (rrT[k]'h).1 (rrT[k]'h).2.1 (rrT[k]'h).2.2).e=zx (rowT[k]'h).1.toNat 16/\(zbc (rrT[k]'h).1 (rrT[k]'h).2.1 (rrT[k]'h).2.2).f=zx (rowT[k]'h).1.toNat 32 /\
  (zbc (rrT[k]'h).1 (rrT[k]'h).2.1 (rrT[k]'h).2.2).g=zx (rowT[k]'h).1.toNat 64/\(zbc (rrT[k]'h).1 (rrT[k]'h).2.1 (rrT[k]'h).2.2).h=zx (rowT[k]'h).1.toNat 128/\(rrT[k]'h).2.1=(rowT[k]'h).2.1/\(rrT[k]'h).2.2=(rowT[k]'h).2.2:=by decide +kernel
theorem zhN {op:Int} (h:1<=op/\op<=40):zco op=⟨zx (zD op).1.toNat 1,zx (zD op).1.toNat 2,zx (zD op).1.toNat 4,zx (zD op).1.toNat 8,zx (zD op).1.toNat 16,zx (zD op).1.toNat 32,zx (zD op).1.toNat 64,zx (zD op).1.toNat 128,(zD op).2.1,(zD op).2.2⟩:=by
 obtain⟨k,rfl⟩: ∃k:Nat,op=(k:Int):=⟨op.toNat,by omega⟩;have hk:k<41:=by omega
 have hra:zD (k:Int)=rowT[k]'hk:=by unfold zD;rw [zzq11,zzq3 (by exact hk)];rfl
 rw [zkr k (by omega) hk,hra];obtain⟨e1,e2,e3,e4,e5,e6,e7,e8,e9,e10⟩:=zm1 k hk (by omega);rw [<-e1,<-e2,<-e3,<-e4,<-e5,<-e6,<-e7,<-e8,<-e9,<-e10]
 rfl
theorem ziz {w w1:World} {cs:Array Value} (hb:Below (w.alloc (.cells cs 93)).heap.size (w.alloc (.cells cs 93)) w1):w1.heap[w.heap.size]?=some (.cells cs 93 (0,0)):=
 (hb.block _ (by simp)).trans (zzF _ _)
theorem zpU (w:World):Calls Tryz.prog 76 #[.int .i64 16] w fun e w'=>e= .returned (.tuple #[.agg (zbc [110] 0 0).val,.bool true])/\Below w.heap.size w w':=by
 exact zz123
theorem zqe (w:World):Calls Tryz.prog 76 #[.int .i64 17] w fun e w'=>e= .returned (.tuple #[.agg (zbc [110] 0 0).val,.bool true])/\Below w.heap.size w w':=by
 exact zz123
theorem zpz (w:World):Calls Tryz.prog 76 #[.int .i64 18] w fun e w'=>e= .returned (.tuple #[.agg (zbc [115,110] 2 2).val,.bool true])/\Below w.heap.size w w':=by
 exact zz123
theorem zpI (w:World):Calls Tryz.prog 76 #[.int .i64 19] w fun e w'=>e= .returned (.tuple #[.agg (zbc [115,110] 2 2).val,.bool true])/\Below w.heap.size w w':=by
 exact zz123
theorem zqi (w:World):Calls Tryz.prog 76 #[.int .i64 20] w fun e w'=>e= .returned (.tuple #[.agg (zbc [115,110] 1 1).val,.bool true])/\Below w.heap.size w w':=by
 exact zz123
theorem zpd (w:World):Calls Tryz.prog 76 #[.int .i64 21] w fun e w'=>e= .returned (.tuple #[.agg (zbc [115,110] 1 1).val,.bool true])/\Below w.heap.size w w':=by
 exact zz123
theorem zql (w:World):Calls Tryz.prog 76 #[.int .i64 22] w fun e w'=>e= .returned (.tuple #[.agg (zbc [115] 2 3).val,.bool true])/\Below w.heap.size w w':=by
 exact zz123
theorem zpW (w:World):Calls Tryz.prog 76 #[.int .i64 23] w fun e w'=>e= .returned (.tuple #[.agg (zbc [115] 2 3).val,.bool true])/\Below w.heap.size w w':=by
 exact zz123
theorem zpX (w:World):Calls Tryz.prog 76 #[.int .i64 24] w fun e w'=>e= .returned (.tuple #[.agg (zbc [110] 0 0).val,.bool true])/\Below w.heap.size w w':=by
 exact zz123
theorem zpl (w:World):Calls Tryz.prog 76 #[.int .i64 25] w fun e w'=>e= .returned (.tuple #[.agg (zbc [] 0 0).val,.bool true])/\Below w.heap.size w w':=by
 exact zz124
theorem zpq (w:World):Calls Tryz.prog 76 #[.int .i64 26] w fun e w'=>e= .returned (.tuple #[.agg (zbc [] 0 0).val,.bool true])/\Below w.heap.size w w':=by
 exact zz124
theorem zpx (w:World):Calls Tryz.prog 76 #[.int .i64 27] w fun e w'=>e= .returned (.tuple #[.agg (zbc [115] 2 2).val,.bool true])/\Below w.heap.size w w':=by
 exact zz123
theorem zpw (w:World):Calls Tryz.prog 76 #[.int .i64 29] w fun e w'=>e= .returned (.tuple #[.agg (zbc [] 0 0).val,.bool true])/\Below w.heap.size w w':=by
 exact zz124
theorem zpZ (w:World):Calls Tryz.prog 76 #[.int .i64 31] w fun e w'=>e= .returned (.tuple #[.agg (zbc [100,115,110,116,108] 1 1).val,.bool true])/\Below w.heap.size w w':=by
 exact zz123
theorem zp3 (w:World):Calls Tryz.prog 76 #[.int .i64 32] w fun e w'=>e= .returned (.tuple #[.agg (zbc [100,115,110,116,108] 1 1).val,.bool true])/\Below w.heap.size w w':=by
 exact zz123
theorem zpi (w:World):Calls Tryz.prog 76 #[.int .i64 33] w fun e w'=>e= .returned (.tuple #[.agg (zbc [100,110,116,108] 0 0).val,.bool true])/\Below w.heap.size w w':=by
 exact zz123
theorem zpt (w:World):Calls Tryz.prog 76 #[.int .i64 35] w fun e w'=>e= .returned (.tuple #[.agg (zbc [100,103,108] 0 0).val,.bool true])/\Below w.heap.size w w':=by
 exact zz123
theorem zpj (w:World):Calls Tryz.prog 76 #[.int .i64 36] w fun e w'=>e= .returned (.tuple #[.agg (zbc [115] 0 1).val,.bool true])/\Below w.heap.size w w':=by
 exact zz123
theorem zpS (w:World):Calls Tryz.prog 76 #[.int .i64 38] w fun e w'=>e= .returned (.tuple #[.agg (zbc [] 0 0).val,.bool true])/\Below w.heap.size w w':=by
 exact zz124
theorem zqd (op:Int) (w:World) (h: ¬(1<=op/\op<=40)):Calls Tryz.prog 76 #[.int .i64 op] w fun e w'=>e= .returned (.tuple #[.agg zRow.val,.bool false])/\Below w.heap.size w w':=by
 have b16:(op==16)=false:=zzB.2 (by omega);have b17:(op==17)=false:=zzB.2 (by omega);have b18:(op==18)=false:=zzB.2 (by omega);have b19:(op==19)=false:=zzB.2 (by omega);have b20:(op==20)=false:=zzB.2 (by omega);have b21:(op==21)=false:=zzB.2 (by omega);have b22:(op==22)=false:=zzB.2 (by omega);have b23:(op==23)=false:=zzB.2 (by omega);have b24:(op==24)=false:=zzB.2 (by omega);have b25:(op==25)=false:=zzB.2 (by omega);have b26:(op==26)=false:=zzB.2 (by omega);have b27:(op==27)=false:=zzB.2 (by omega);have b29:(op==29)=false:=zzB.2 (by omega);have b31:(op==31)=false:=zzB.2 (by omega);have b32:(op==32)=false:=zzB.2 (by omega);have b33:(op==33)=false:=zzB.2 (by omega);have b35:(op==35)=false:=zzB.2 (by omega);have b36:(op==36)=false:=zzB.2 (by omega);have b38:(op==38)=false:=zzB.2 (by omega);clear h;exact zz124
theorem zpO (w:World):Calls Tryz.prog 34 #[.int .i64 1] w fun e w'=>e= .returned (.tuple #[.agg (zbc [100,115] 1 1).val,.bool true])/\Below w.heap.size w w':=by
 exact zz123
theorem zpQ (w:World):Calls Tryz.prog 34 #[.int .i64 6] w fun e w'=>e= .returned (.tuple #[.agg (zbc [100,115] 1 1).val,.bool true])/\Below w.heap.size w w':=by
 exact zz123
theorem zpN (w:World):Calls Tryz.prog 34 #[.int .i64 7] w fun e w'=>e= .returned (.tuple #[.agg (zbc [100,115] 1 1).val,.bool true])/\Below w.heap.size w w':=by
 exact zz123
theorem zp7 (w:World):Calls Tryz.prog 34 #[.int .i64 2] w fun e w'=>e= .returned (.tuple #[.agg (zbc [100,115,108] 0 255).val,.bool true])/\Below w.heap.size w w':=by
 exact zz123
theorem zp0 (w:World):Calls Tryz.prog 34 #[.int .i64 3] w fun e w'=>e= .returned (.tuple #[.agg (zbc [100,115,108] 2 2).val,.bool true])/\Below w.heap.size w w':=by
 exact zz123
theorem zpm (w:World):Calls Tryz.prog 34 #[.int .i64 4] w fun e w'=>e= .returned (.tuple #[.agg (zbc [100,115,110,108] 0 200).val,.bool true])/\Below w.heap.size w w':=by
 exact zz123
theorem zps (w:World):Calls Tryz.prog 34 #[.int .i64 5] w fun e w'=>e= .returned (.tuple #[.agg (zbc [100,115,110] 1 1).val,.bool true])/\Below w.heap.size w w':=by
 exact zz123
theorem zpJ (w:World):Calls Tryz.prog 34 #[.int .i64 8] w fun e w'=>e= .returned (.tuple #[.agg (zbc [116] 0 0).val,.bool true])/\Below w.heap.size w w':=by
 exact zz123
theorem znG (w:World):Calls Tryz.prog 34 #[.int .i64 28] w fun e w'=>e= .returned (.tuple #[.agg (zbc [116] 0 0).val,.bool true])/\Below w.heap.size w w':=by
 exact zz123
theorem zoJ (w:World):Calls Tryz.prog 34 #[.int .i64 34] w fun e w'=>e= .returned (.tuple #[.agg (zbc [116] 0 0).val,.bool true])/\Below w.heap.size w w':=by
 exact zz123
theorem zoW (w:World):Calls Tryz.prog 34 #[.int .i64 37] w fun e w'=>e= .returned (.tuple #[.agg (zbc [116] 0 0).val,.bool true])/\Below w.heap.size w w':=by
 exact zz123
theorem znM (w:World):Calls Tryz.prog 34 #[.int .i64 39] w fun e w'=>e= .returned (.tuple #[.agg (zbc [116] 0 0).val,.bool true])/\Below w.heap.size w w':=by
 exact zz123
theorem zox (w:World):Calls Tryz.prog 34 #[.int .i64 40] w fun e w'=>e= .returned (.tuple #[.agg (zbc [116] 0 0).val,.bool true])/\Below w.heap.size w w':=by
 exact zz123
theorem zpa (w:World):Calls Tryz.prog 34 #[.int .i64 9] w fun e w'=>e= .returned (.tuple #[.agg (zbc [115,110,116] 1 1).val,.bool true])/\Below w.heap.size w w':=by
 exact zz123
theorem zoZ (w:World):Calls Tryz.prog 34 #[.int .i64 10] w fun e w'=>e= .returned (.tuple #[.agg (zbc [115,116] 1 1).val,.bool true])/\Below w.heap.size w w':=by
 exact zz123
theorem zoR (w:World):Calls Tryz.prog 34 #[.int .i64 30] w fun e w'=>e= .returned (.tuple #[.agg (zbc [115,116] 1 1).val,.bool true])/\Below w.heap.size w w':=by
 exact zz123
theorem zoj (w:World):Calls Tryz.prog 34 #[.int .i64 11] w fun e w'=>e= .returned (.tuple #[.agg (zbc [115,116] 2 2).val,.bool true])/\Below w.heap.size w w':=by
 exact zz123
theorem zn2 (w:World):Calls Tryz.prog 34 #[.int .i64 12] w fun e w'=>e= .returned (.tuple #[.agg (zbc [115,99,116] 1 1).val,.bool true])/\Below w.heap.size w w':=by
 exact zz123
theorem zom (w:World):Calls Tryz.prog 34 #[.int .i64 13] w fun e w'=>e= .returned (.tuple #[.agg (zbc [100,115,119,116,108] 0 255).val,.bool true])/\Below w.heap.size w w':=by
 exact zz123
theorem zn4 (w:World):Calls Tryz.prog 34 #[.int .i64 14] w fun e w'=>e= .returned (.tuple #[.agg (zbc [100,115,119,108] 0 3).val,.bool true])/\Below w.heap.size w w':=by
 exact zz123
theorem zoX (w:World):Calls Tryz.prog 34 #[.int .i64 15] w fun e w'=>e= .returned (.tuple #[.agg (zbc [110,119] 0 0).val,.bool true])/\Below w.heap.size w w':=by
 exact zz123
theorem zbm (op:Int) (r:RRow) (q:Bool) (w:World) (hm: ∀wx,Calls Tryz.prog 76 #[.int .i64 op] wx fun e w'=>e= .returned (.tuple #[.agg r.val,.bool q])/\Below wx.heap.size wx w')
  (h:op≠1/\op≠6/\op≠7/\op≠2/\op≠3/\op≠4/\op≠5/\op≠8/\op≠28/\op≠34/\op≠37/\op≠39/\op≠40/\op≠9/\op≠10/\op≠30/\op≠11/\op≠12/\op≠13/\op≠14/\op≠15):Calls Tryz.prog 34 #[.int .i64 op] w fun e w'=>e= .returned (.tuple #[.agg r.val,.bool q])/\Below w.heap.size w w':=by
 have HM:=zzH hm;clear hm;obtain⟨n1,n6,n7,n2,n3,n4,n5,n8,n28,n34,n37,n39,n40,n9,n10,n30,n11,n12,n13,n14,n15⟩:=h;have b1:(op==1)=false:=zzB.2 n1;have b6:(op==6)=false:=zzB.2 n6;have b7:(op==7)=false:=zzB.2 n7;have b2:(op==2)=false:=zzB.2 n2;have b3:(op==3)=false:=zzB.2 n3;have b4:(op==4)=false:=zzB.2 n4;have b5:(op==5)=false:=zzB.2 n5;have b8:(op==8)=false:=zzB.2 n8;have b28:(op==28)=false:=zzB.2 n28;have b34:(op==34)=false:=zzB.2 n34;have b37:(op==37)=false:=zzB.2 n37;have b39:(op==39)=false:=zzB.2 n39;have b40:(op==40)=false:=zzB.2 n40;have b9:(op==9)=false:=zzB.2 n9;have b10:(op==10)=false:=zzB.2 n10;have b30:(op==30)=false:=zzB.2 n30;have b11:(op==11)=false:=zzB.2 n11;have b12:(op==12)=false:=zzB.2 n12;have b13:(op==13)=false:=zzB.2 n13;have b14:(op==14)=false:=zzB.2 n14;have b15:(op==15)=false:=zzB.2 n15;clear n1 n6 n7 n2 n3 n4 n5 n8 n28 n34 n37 n39 n40 n9 n10 n30 n11 n12 n13 n14 n15;go_in;go_wp2_with (first|(go_at_call 76;refine(HM.out _).mono ?_;rintro e w1 ⟨rfl,hb1⟩;have hk:=ziz hb1)|(refine zzm rfl 93 _ _ rfl _ _ rfl rfl 93 _ hk (by kernel_rfl) rfl (RRow.one _) ?_));go_wp2_with fail;refine zzj (zbn rfl _ _ _ w.heap.size _ _ _ _ rfl (setRow_heap _ _ _ _ _ _ hk) Tryz.underlying93 (by kernel_rfl)) rfl ?_;exact⟨rfl,below_setRow ((zzE _ _).trans (hb1.mono (by simp))) (zzL _) _⟩
theorem zfI (op:Int) (w:World):Calls Tryz.prog 34 #[.int .i64 op] w fun e w'=>e= .returned (.tuple #[.agg (zco op).val,.bool (zdA op)])/\Below w.heap.size w w':=by
 by_cases h:1<=op/\op<=40
 ·have hok:zdA op=true:=by unfold zdA;exact zzT h
  rw [hok];obtain⟨k,rfl⟩: ∃k:Nat,op=(k:Int):=⟨op.toNat,by omega⟩;have hk:k<41:=by omega
  have hk1:1<=k:=by omega
  rw [zkr k hk1 hk];clear h hok
  match k,hk,hk1 with
  |0,_,h0=>exact absurd h0 (by decide)
  |1,_,_=>exact zpO w
  |2,_,_=>exact zp7 w
  |3,_,_=>exact zp0 w
  |4,_,_=>exact zpm w
  |5,_,_=>exact zps w
  |6,_,_=>exact zpQ w
  |7,_,_=>exact zpN w
  |8,_,_=>exact zpJ w
  |9,_,_=>exact zpa w
  |10,_,_=>exact zoZ w
  |11,_,_=>exact zoj w
  |12,_,_=>exact zn2 w
  |13,_,_=>exact zom w
  |14,_,_=>exact zn4 w
  |15,_,_=>exact zoX w
  |16,_,_=>exact zbm 16 _ true w (fun wx=>zpU wx) (by decide)
  |17,_,_=>exact zbm 17 _ true w (fun wx=>zqe wx) (by decide)
  |18,_,_=>exact zbm 18 _ true w (fun wx=>zpz wx) (by decide)
  |19,_,_=>exact zbm 19 _ true w (fun wx=>zpI wx) (by decide)
  |20,_,_=>exact zbm 20 _ true w (fun wx=>zqi wx) (by decide)
  |21,_,_=>exact zbm 21 _ true w (fun wx=>zpd wx) (by decide)
  |22,_,_=>exact zbm 22 _ true w (fun wx=>zql wx) (by decide)
  |23,_,_=>exact zbm 23 _ true w (fun wx=>zpW wx) (by decide)
  |24,_,_=>exact zbm 24 _ true w (fun wx=>zpX wx) (by decide)
  |25,_,_=>exact zbm 25 _ true w (fun wx=>zpl wx) (by decide)
  |26,_,_=>exact zbm 26 _ true w (fun wx=>zpq wx) (by decide)
  |27,_,_=>exact zbm 27 _ true w (fun wx=>zpx wx) (by decide)
  |28,_,_=>exact znG w
  |29,_,_=>exact zbm 29 _ true w (fun wx=>zpw wx) (by decide)
  |30,_,_=>exact zoR w
  |31,_,_=>exact zbm 31 _ true w (fun wx=>zpZ wx) (by decide)
  |32,_,_=>exact zbm 32 _ true w (fun wx=>zp3 wx) (by decide)
  |33,_,_=>exact zbm 33 _ true w (fun wx=>zpi wx) (by decide)
  |34,_,_=>exact zoJ w
  |35,_,_=>exact zbm 35 _ true w (fun wx=>zpt wx) (by decide)
  |36,_,_=>exact zbm 36 _ true w (fun wx=>zpj wx) (by decide)
  |37,_,_=>exact zoW w
  |38,_,_=>exact zbm 38 _ true w (fun wx=>zpS wx) (by decide)
  |39,_,_=>exact znM w
  |40,_,_=>exact zox w
  |k+41,hk,_=>exact absurd hk (by omega)
 ·have hok:zdA op=false:=by unfold zdA;exact zzD h
  rw [hok,zpf h];exact zbm op zRow false w (fun wx=>zqd op wx h) (by omega)
theorem zhh: ∀(a b:List UInt8),Lib.compareBytes a b= -1\/Lib.compareBytes a b=0\/Lib.compareBytes a b=1
 |[],[]=>.inr (.inl rfl)
 |[],_::_=>.inl rfl
 |_::_,[]=>.inr (.inr rfl)
 |a::x,b::y=>by
  unfold Lib.compareBytes;split
  ·exact .inl rfl
  ·split
   ·exact .inr (.inr rfl)
   ·exact zhh x y
theorem zh7: ∀(a b:List UInt8),Op.bytesLess a b=decide (Lib.compareBytes a b= -1)
 |[],[]=>rfl
 |[],_::_=>rfl
 |_::_,[]=>rfl
 |a::x,b::y=>by
  unfold Op.bytesLess Lib.compareBytes;by_cases h:a<b
  ·rw [if_pos h,decide_eq_true h];rfl
  ·rw [if_neg h,decide_eq_false h,zzq9]
   by_cases h2:b<a
   ·rw [if_pos h2]
    have:(a==b)=false:=by
     rw [zzq1];intro e;subst e;exact h h2
    rw [this];rfl
   ·rw [if_neg h2]
    have:a=b:=by
     rw [UInt8.lt_iff_toNat_lt]at h h2;exact UInt8.toNat_inj.1 (by omega)
    subst this;rw [beq_self_eq_true,zzq15];exact zh7 x y
theorem zkv: ∀(a b:List UInt8),(a==b)=decide (Lib.compareBytes a b=0)
 |[],[]=>rfl
 |[],_::_=>rfl
 |_::_,[]=>rfl
 |a::x,b::y=>by
  unfold Lib.compareBytes;by_cases h:a<b
  ·rw [if_pos h]
   have:a≠b:=by intro e;subst e;rw [UInt8.lt_iff_toNat_lt]at h;omega
   simp [this]
  ·rw [if_neg h]
   by_cases h2:b<a
   ·rw [if_pos h2]
    have:a≠b:=by intro e;subst e;exact h h2
    simp [this]
   ·rw [if_neg h2]
    have:a=b:=by
     rw [UInt8.lt_iff_toNat_lt]at h h2;exact UInt8.toNat_inj.1 (by omega)
    subst this;rw [<-zkv x y];simp
theorem zic (a b:Int) (w:World):Calls Tryz.prog 133 #[.int .i64 a,.int .i64 b] w fun e w'=>e= .returned (.int .i64 (Lib.compareInt a b))/\w=w':=by
 by_cases h:a<b
 ·have E:Hid (Lib.compareInt a b= -1):=zzH (by unfold Lib.compareInt;rw [if_pos h])
  exact zz167
 ·by_cases h2:b<a
  ·have E:Hid (Lib.compareInt a b=1):=zzH (by unfold Lib.compareInt;rw [if_neg h,if_pos h2])
   exact zz167
  ·have E:Hid (Lib.compareInt a b=0):=zzH (by unfold Lib.compareInt;rw [if_neg h,if_neg (by omega)])
   exact zz167
theorem zkK (a b:ByteArray) (w:World):Calls Tryz.prog 134 #[.string a,.string b] w fun e w'=>e= .returned (.int .i64 (Lib.compareBytes a.toList b.toList))/\w=w':=by
 have key: ∀(x1 x2:Bool) (n:Int),Op.bytesLess a.toList b.toList=x1->(a.toList==b.toList)=x2->n=(if x1=true then -1 else if x2=true then 0 else 1)->Calls Tryz.prog 134 #[.string a,.string b] w fun e w'=>e= .returned (.int .i64 n)/\w=w':=by
  intro x1 x2 n h1 h2 h3;have E:=zzH h3;clear h3
  cases x1 with
  |true=>
   exact zz167
  |false=>
   cases x2 with
   |true=>
    exact zz167
   |false=>
    exact zz167
 refine key _ _ _ rfl rfl ?_;rw [zh7,zkv];rcases zhh a.toList b.toList with h|h|h<;>rw [h]<;>rfl
theorem zcS {s:ByteArray} (h:zS s=true):s.data.toList= []:=by
 unfold zS at h;rw [zzq8]at h;exact zzQ (by rw [Array.length_toList];exact h)
theorem zdI {f:Nat} {t:Tm} (h:zM (f+1) t=true):ze6 t=true:=by
 unfold zM zh zc0 at h;simp only [zzq4]at h;exact h.1.1.2
theorem zd8 (a:Int):Lib.compareInt a a=0:=by unfold Lib.compareInt;rw [if_neg (Int.lt_irrefl _),if_neg (Int.lt_irrefl _)]
theorem zko (x:Int):(if x=0 then(0:Int)else x)=x:=by split<;>omega
theorem zof {f:Nat} {a b:Tm} (va:zM (f+1) a=true) (vb:zM (f+1) b=true) (ha:a.kind=1) (hb:b.kind=1):zcl a b=Lib.compareInt a.int b.int:=by
 have za:=zdI va;have zb:=zdI vb;unfold ze6 at za zb;simp only [ha,hb]at za zb;simp at za zb;unfold zI zL at za zb;simp only [zzq8]at za zb;have n1:=zcS za.1.1.1.1.1.2;have n2:=zcS zb.1.1.1.1.1.2;have f1:=zcS za.1.1.1.1.2;have f2:=zcS zb.1.1.1.1.2;have g1:=za.1.1.1.1.1.1;have g2:=zb.1.1.1.1.1.1;have a1:=za.1.1.1.2;have a2:=zb.1.1.1.2;unfold zcl;rw [ha,hb,zd8,if_pos rfl,n1,n2,f1,f2,g1,g2,a1,a2];simp only [orL,Lib.compareBytes,zd8,if_true];exact zko _
theorem zl8 {f:Nat} {a b:Tm} (va:zM (f+1) a=true) (vb:zM (f+1) b=true) (ha:a.kind=2) (hb:b.kind=2):zcl a b=Lib.compareBytes a.name.data.toList b.name.data.toList:=by
 have za:=zdI va;have zb:=zdI vb;unfold ze6 at za zb;simp only [ha,hb]at za zb;simp at za zb;unfold zI zL at za zb;simp only [zzq8]at za zb;have i1:=za.1.1.1.1.1.1;have i2:=zb.1.1.1.1.1.1;have f1:=zcS za.1.1.1.1.2;have f2:=zcS zb.1.1.1.1.2;have g1:=za.1.1.1.1.1.2;have g2:=zb.1.1.1.1.1.2;have a1:=za.1.1.1.2;have a2:=zb.1.1.1.2;unfold zcl;rw [ha,hb,zd8,if_pos rfl,i1,i2,f1,f2,g1,g2,a1,a2];simp only [orL,Lib.compareBytes,zd8,if_true];exact zko _
theorem znP {f:Nat} {a b:Tm} (va:zM (f+1) a=true) (vb:zM (f+1) b=true) (ha:a.kind=8) (hb:b.kind=8):zcl a b=0:=by
 have za:=zdI va;have zb:=zdI vb;unfold ze6 at za zb;simp only [ha,hb]at za zb;simp at za zb;unfold zI zL at za zb;simp only [zzq8]at za zb;have i1:=za.1.1.1.1.1.1.1;have i2:=zb.1.1.1.1.1.1.1;have n1:=zcS za.1.1.1.1.1.2;have n2:=zcS zb.1.1.1.1.1.2;have f1:=zcS za.1.1.1.1.2;have f2:=zcS zb.1.1.1.1.2;have g1:=za.1.1.1.1.1.1.2;have g2:=zb.1.1.1.1.1.1.2;have a1:=za.1.1.1.2;have a2:=zb.1.1.1.2;unfold zcl;rw [ha,hb,zd8,if_pos rfl,i1,i2,n1,n2,f1,f2,g1,g2,a1,a2];simp only [orL,Lib.compareBytes,zd8,if_true]
theorem zm6 {a b:Tm} (h:a.kind≠b.kind):zcl a b=Lib.compareInt a.kind b.kind:=by
 unfold zcl;rw [if_neg];unfold Lib.compareInt;split
 ·decide
 ·split
  ·decide
  ·omega
theorem zhI (f:Nat) (a b:Tm) (ao bo:zzA) (c d:Nat) (w:World) (hta:SlAt w 9 (TmAt w f) ao a.items) (htb:SlAt w 9 (TmAt w f) bo b.items) (oa:a.Ok) (ob:b.Ok) (ca:(zR (f+1) a:Int)<=1152921504606846976) (cb:(zR (f+1) b:Int)<=1152921504606846976)
  (va:zM (f+1) a=true) (vb:zM (f+1) b=true) (ka:a.kind=1\/a.kind=2\/a.kind=8) (kb:b.kind=1\/b.kind=2\/b.kind=8):
  Calls Tryz.prog 113 #[.agg (zzt a ao c),.agg (zzt b bo d)] w fun e w'=>e= .returned (.int .i64 (zcl a b))/\Below w.heap.size w w':=by
 unfold zzt;have HB:=zzH (fun(ka kb:Int)=>zZ w (.cells #[.int .i64 ka,.int .i64 a.int,.int .i64 a.gen,.string a.name,.string a.func,.int .i64 a.arity,.slice ao a.items.length c,.string a.bytes,.int .i64 a.bits] 110) (.cells #[.int .i64 kb,.int .i64 b.int,.int .i64 b.gen,.string b.name,.string b.func,.int .i64 b.arity,.slice bo b.items.length d,.string b.bytes,.int .i64 b.bits] 110));by_cases hk:a.kind=b.kind
 ·have hnb : (a.kind != b.kind) = false := by rw [bne_eq_false_iff_eq]; exact hk
  have E1:Hid (a.kind=1->zcl a b=Lib.compareInt a.int b.int):=zzH (fun h=>zof va vb h (hk▸h));have E2:Hid (a.kind=2->zcl a b=Lib.compareBytes a.name.toList b.name.toList):=zzH (fun h=>by rw [zzq19,zzq19];exact zl8 va vb h (hk▸h));have E8:Hid (a.kind=8->zcl a b=0):=zzH (fun h=>znP va vb h (hk▸h));clear hta htb oa ob ca cb va vb;have h1:=fun wx=>zic a.int b.int wx
  have h2:=fun wx=>zkK a.name b.name wx
  generalize zcl a b=r at *;generalize Lib.compareInt a.int b.int=r1 at *;generalize Lib.compareBytes a.name.toList b.name.toList=r2 at *;clear kb;rw [hk]at ka hnb E1 E2 E8;rw [hk];generalize b.kind=k at *;clear hk;rcases ka with rfl|rfl|rfl
  ·have E:=zzH (E1.out rfl)
   clear E1 E2 E8;exact zz168
  ·have E:=zzH (E2.out rfl)
   clear E1 E2 E8;go_in;go_wp2_with (go_at_call 134;refine(h2 _).mono ?_;rintro e w1 ⟨rfl,rfl⟩);go_ret;exact⟨zcF E.out.symm,HB.out _ _⟩
  ·have E:=zzH (E8.out rfl)
   clear E1 E2 E8;go_in;go_wp2;go_ret;exact⟨zcF E.out.symm,HB.out _ _⟩
 ·have hnb : (a.kind != b.kind) = true := by rw [bne_iff_ne]; exact hk
  have E:=zzH (zm6 hk);have h1:=fun wx=>zic a.kind b.kind wx
  clear hta htb oa ob ca cb va vb hk ka kb;generalize zcl a b=r at *;generalize Lib.compareInt a.kind b.kind=r1 at *;exact zz168
theorem zht (f:Nat) (a b:Tm) (ao bo:zzA) (c d:Nat) (w:World) (hta:SlAt w 9 (TmAt w f) ao a.items) (htb:SlAt w 9 (TmAt w f) bo b.items) (oa:a.Ok) (ob:b.Ok) (ca:(zR (f+1) a:Int)<=1152921504606846976) (cb:(zR (f+1) b:Int)<=1152921504606846976)
  (va:zM (f+1) a=true) (vb:zM (f+1) b=true) (ka:a.kind=1\/a.kind=2\/a.kind=8) (kb:b.kind=1\/b.kind=2\/b.kind=8):
  Calls Tryz.prog 81 #[.agg #[.int .i64 a.kind,.int .i64 a.int,.int .i64 a.gen,.string a.name,.string a.func,.int .i64 a.arity,.slice ao a.items.length c,.string a.bytes,.int .i64 a.bits],.agg #[.int .i64 b.kind,.int .i64 b.int,.int .i64 b.gen,.string b.name,.string b.func,.int .i64 b.arity,.slice bo b.items.length d,.string b.bytes,.int .i64 b.bits]] w fun e w'=>e= .returned (.int .i64 (zcl a b))/\Below w.heap.size w w':=by
 have hB:=zZ w (.cells #[.int .i64 a.kind,.int .i64 a.int,.int .i64 a.gen,.string a.name,.string a.func,.int .i64 a.arity,.slice ao a.items.length c,.string a.bytes,.int .i64 a.bits] 110) (.cells #[.int .i64 b.kind,.int .i64 b.int,.int .i64 b.gen,.string b.name,.string b.func,.int .i64 b.arity,.slice bo b.items.length d,.string b.bytes,.int .i64 b.bits] 110);have r0:=zfy w (.cells #[.int .i64 a.kind,.int .i64 a.int,.int .i64 a.gen,.string a.name,.string a.func,.int .i64 a.arity,.slice ao a.items.length c,.string a.bytes,.int .i64 a.bits] 110) (.cells #[.int .i64 b.kind,.int .i64 b.int,.int .i64 b.gen,.string b.name,.string b.func,.int .i64 b.arity,.slice bo b.items.length d,.string b.bytes,.int .i64 b.bits] 110);have r1:=zeP w (.cells #[.int .i64 a.kind,.int .i64 a.int,.int .i64 a.gen,.string a.name,.string a.func,.int .i64 a.arity,.slice ao a.items.length c,.string a.bytes,.int .i64 a.bits] 110) (.cells #[.int .i64 b.kind,.int .i64 b.int,.int .i64 b.gen,.string b.name,.string b.func,.int .i64 b.arity,.slice bo b.items.length d,.string b.bytes,.int .i64 b.bits] 110);have hva: ∀wx,Below w.heap.size w wx->Calls Tryz.prog 73 #[.agg #[.int .i64 a.kind,.int .i64 a.int,.int .i64 a.gen,.string a.name,.string a.func,.int .i64 a.arity,.slice ao a.items.length c,.string a.bytes,.int .i64 a.bits]] wx fun e w'=>e= .returned (.bool true)/\Below wx.heap.size wx w':=fun wx hx=>by have h:=zff f a ao c wx (hta.tms hx) oa ca;rwa [va]at h
 have hvb: ∀wx,Below w.heap.size w wx->Calls Tryz.prog 73 #[.agg #[.int .i64 b.kind,.int .i64 b.int,.int .i64 b.gen,.string b.name,.string b.func,.int .i64 b.arity,.slice bo b.items.length d,.string b.bytes,.int .i64 b.bits]] wx fun e w'=>e= .returned (.bool true)/\Below wx.heap.size wx w':=fun wx hx=>by have h:=zff f b bo d wx (htb.tms hx) ob cb;rwa [vb]at h
 have hvs: ∀wx,Below w.heap.size w wx->Calls Tryz.prog 113 #[.agg #[.int .i64 a.kind,.int .i64 a.int,.int .i64 a.gen,.string a.name,.string a.func,.int .i64 a.arity,.slice ao a.items.length c,.string a.bytes,.int .i64 a.bits],.agg #[.int .i64 b.kind,.int .i64 b.int,.int .i64 b.gen,.string b.name,.string b.func,.int .i64 b.arity,.slice bo b.items.length d,.string b.bytes,.int .i64 b.bits]] wx fun e w'=>e= .returned (.int .i64 (zcl a b))/\Below wx.heap.size wx w':=fun wx hx=>zhI f a b ao bo c d wx (hta.tms hx) (htb.tms hx) oa ob ca cb va vb ka kb
 refine zzK6 hva hvb hvs hB r0 r1 fun HVA HVB HVS HB R0 R1=>?_;clear hta htb oa ob ca cb va vb ka kb hB hva hvb hvs r0 r1;generalize zcl a b=r at *;go_in;go_upto_region 1 with fail;have hq0:=R0.out;have hq1:=R1.out;generalize(w.alloc (.cells #[.int .i64 a.kind,.int .i64 a.int,.int .i64 a.gen,.string a.name,.string a.func,.int .i64 a.arity,.slice ao a.items.length c,.string a.bytes,.int .i64 a.bits] 110)).alloc (.cells #[.int .i64 b.kind,.int .i64 b.int,.int .i64 b.gen,.string b.name,.string b.func,.int .i64 b.arity,.slice bo b.items.length d,.string b.bytes,.int .i64 b.bits] 110)=W at *;generalize hBz:w.heap.size=Z at *;have HBZ:=zzH hBz;clear hBz;have HBW:Hid (Below w.heap.size w W):=zzH (by rw [HBZ.out];exact HB.out);have hva': ∀wx,Below W.heap.size W wx->Calls Tryz.prog 73 #[.agg #[.int .i64 a.kind,.int .i64 a.int,.int .i64 a.gen,.string a.name,.string a.func,.int .i64 a.arity,.slice ao a.items.length c,.string a.bytes,.int .i64 a.bits]] wx fun e w'=>e= .returned (.bool true)/\Below W.heap.size W w':=fun wx hx=>(HVA.out wx (by rw [<-HBZ.out];exact ze HBW.out hx)).mono fun _ _ ⟨h,h'⟩=>⟨h,ze hx h'⟩
 have hvb': ∀wx,Below W.heap.size W wx->Calls Tryz.prog 73 #[.agg #[.int .i64 b.kind,.int .i64 b.int,.int .i64 b.gen,.string b.name,.string b.func,.int .i64 b.arity,.slice bo b.items.length d,.string b.bytes,.int .i64 b.bits]] wx fun e w'=>e= .returned (.bool true)/\Below W.heap.size W w':=fun wx hx=>(HVB.out wx (by rw [<-HBZ.out];exact ze HBW.out hx)).mono fun _ _ ⟨h,h'⟩=>⟨h,ze hx h'⟩
 obtain⟨q0,q1,q2,q3,q4,q5,q6,q7,q8,zq⟩:=zv hq0;obtain⟨p0,p1,p2,p3,p4,p5,p6,p7,p8,zp⟩:=zv hq1;have hl0:=zd hq0;have hl1:=zd hq1;clear zq zp hq0 hq1;have HDR:=zzH ((zzR W.heap.size W).drew);have SK0:=zzH (zby HDR.out)
 first|go_region_held3 (fun w'=>W.heap.size<=w'.heap.size/\ ∀b o,b<W.heap.size->w'.cell? ⟨b,o,none⟩=W.cell? ⟨b,o,none⟩) (first|with_reducible exact SK0.out|with_reducible exact HK5.out|with_reducible exact HK6.out)
  (first
   |(go_at_call 73;(first|(with_reducible refine(hva' _ HDR.out).mono ?_)|(with_reducible refine(hvb' _ HDR.out).mono ?_));rintro e w5 ⟨rfl,hb5⟩;have HK5:=zzH (zby hb5))
   |(go_at_call 73;(first|(with_reducible refine(hva' _ hb5).mono ?_)|(with_reducible refine(hvb' _ hb5).mono ?_));rintro e w6 ⟨rfl,hb6⟩;have HK6:=zzH (zby hb6)))|fail
 all_goals
  obtain⟨s0,s1,s2,s3,s4,s5,s6,s7,s8,zs⟩:=zv ((hb6.block _ hl0).trans R0.out);obtain⟨u0,u1,u2,u3,u4,u5,u6,u7,u8,zu⟩:=zv ((hb6.block _ hl1).trans R1.out);go_wp2_with (go_at_call 113;refine(HVS.out _ (by rw [<-HBZ.out];exact ze HBW.out hb6)).mono ?_;rintro e w8 ⟨rfl,hb8⟩);go_ret;exact⟨rfl,ze HBW.out (ze hb6 hb8)⟩
theorem zlN {w:World} {f:Nat} {lo:zzA} {lits:List Tm} (h:LitsOk w f lo lits) {i j:Nat} (hi:i<lits.length) (hj:j<lits.length) (ki:zcV lits[i]=true) (kj:zcV lits[j]=true) {ai aj:zzA} {ci cj:Nat}
  (si:SlAt w 9 (TmAt w f) ai lits[i].items) (sj:SlAt w 9 (TmAt w f) aj lits[j].items) (oi:lits[i].Ok) (oj:lits[j].Ok) (wx:World) (hx:Below w.heap.size w wx):
  Calls Tryz.prog 81 #[.agg #[.int .i64 lits[i].kind,.int .i64 lits[i].int,.int .i64 lits[i].gen,.string lits[i].name,.string lits[i].func,.int .i64 lits[i].arity,.slice ai lits[i].items.length ci,.string lits[i].bytes,.int .i64 lits[i].bits],.agg #[.int .i64 lits[j].kind,.int .i64 lits[j].int,.int .i64 lits[j].gen,.string lits[j].name,.string lits[j].func,.int .i64 lits[j].arity,.slice aj lits[j].items.length cj,.string lits[j].bytes,.int .i64 lits[j].bits]] wx fun e w'=>e= .returned (.int .i64 (zcl lits[i] lits[j]))/\Below wx.heap.size wx w':=by
 obtain⟨vi,bi⟩:=h.ok _ (zzM hi);obtain⟨vj,bj⟩:=h.ok _ (zzM hj);exact zht f lits[i] lits[j] ai aj ci cj wx (si.tms hx) (sj.tms hx) oi oj bi bj vi vj (zza ki) (zza kj)
theorem zld (u:RUnit) (lo fo go co:zzA) (lc fc gc cc:Nat) (x:RIns) (so co' go':zzA) (sc cc' gc':Nat) (f:Nat) (w:World) (hl:u.lits.length<=9223372036854775807) (hlit:LitsOk w f lo u.lits) (hca:SlAt w 2 zed co' x.cases) (hse:SlAt w 6 zfu go' x.segs) (rc:x.cases.length<=9223372036854775807) (rs:x.segs.length<=9223372036854775807):
  Calls Tryz.prog 38 #[.agg (zzu u lo lc fo fc go gc co cc),.agg (zzi x so sc co' cc' go' gc')] w fun e w'=>e= .returned (.bool (zbl u.lits x))/\Below w.heap.size w w':=by
 unfold zzi zzu;have HE:Hid (zbl u.lits x=(((!(x.op==12)||wi x.cases.length 1 1000)&&decide ((x.segs.length:Int)<=60))&&(zdZ u.lits x.cases&&x.segs.all (zbE u.lits.length)))):=zzH rfl;refine zzK3 hlit hca hse fun HLI0 HCA0 HSE0=>?_;have hwi:=fun wx=>zJ (x.cases.length:Int) 1 1000 wx
 clear hlit hca hse;go_in;go_upto_region 1 with fail;obtain⟨hU,hX,hBW⟩:=zbA w u lo fo go co lc fc gc cc x so co' go' sc cc' gc';have HBW:=zzH hBW;have HLI:Hid (LitsOk _ f lo u.lits):=zzH (HLI0.out.below hBW);have HCA:=zzH (HCA0.out.mono hBW fun _ _ h=>h);have HSE:=zzH (HSE0.out.mono hBW fun _ _ h=>h);clear hBW HLI0 HCA0 HSE0;generalize(w.alloc (.cells (zzu u lo lc fo fc go gc co cc) 27)).alloc (.cells (zzi x so sc co' cc' go' gc') 47)=W at *;generalize hBz:w.heap.size=B at *;have HBZ:=zzH hBz;clear hBz;have HFIN:Hid (∀wx,Below W.heap.size W wx->Below B w wx):=zzH (fun wx hh=>HBW.out.trans (hh.mono (by have:=HBW.out.size;have:=HBZ.out;omega)));have HU:=zzH hU;have HX:=zzH hX;have c0:=hX.c0;have c8:=hX.c8;have c9:=hX.c9;have hlx:=hX.lt;have hlu:=hU.lt;clear hU hX;generalize hr1:(!(x.op==12)||wi x.cases.length 1 1000)=r1 at HE;have HR1:=zzH hr1;clear hr1;go_cut [19] (fun s wx=> ∃n1:Bool,s= .bool n1/\Hid (n1= !r1)/\W=wx)
 case first=>
  generalize wi x.cases.length 1 1000=w1 at *
  cases t12:(x.op==12)with
  |true=>
   cases w1 with
   |false=>
    have hv:=zzH (HR1.out.symm.trans (by rw [t12];rfl:_=false));exact zz179
   |true=>
    have hv:=zzH (HR1.out.symm.trans (by rw [t12];rfl:_=true));exact zz179
  |false=>
   have hv:=zzH (HR1.out.symm.trans (by rw [t12];rfl:_=true));go_wp2_with fail;go_meet
   case rel=>exact⟨_,rfl,zzH (by rw [hv.out];rfl),rfl⟩
 case rest=>
  obtain⟨n1,rfl,hn1,rfl⟩:=hcut;clear HR1 hwi
  cases r1 with
  |false=>
   exact zz180
  |true=>
   obtain rfl:n1=false:=hn1.out;have HE1:Hid (zbl u.lits x=(decide ((x.segs.length:Int)<=60)&&(zdZ u.lits x.cases&&x.segs.all (zbE u.lits.length)))):=zzH (by rw [HE.out,zzq15]);clear HE;go_wp2_with fail;go_loopw [5,6,7] (fun i _ _ wr=> ∃k:Nat,k<=x.cases.length/\i= .int .i64 k/\Hid (∀j,j<k->zcf u.lits x.cases j=true)/\Below W.heap.size W wr) (fun i _ _ _=>x.cases.length-(intOf i).toNat)
   case atStart=>exact⟨0,zzZ _,rfl,zzH (fun j h=>absurd h (zzC _)),zzR _ _⟩
   case round=>
    obtain⟨k,hk,rfl,HK,hBw⟩:=hrel;rename World=>wr
    clear c0 c8 c9;have hxr:=HX.out.below hBw;have hur:=HU.out.below hBw;have HBWR:=zzH hBw;have c8:=hxr.c8;have c9:=hxr.c9;have hlx:=hxr.lt;have hlu:=hur.lt;have u2:=hur.c2;by_cases hlt:k<x.cases.length
    ·obtain⟨b1,off1,hco,hb1,q0,q1,rl,rt⟩:=(HCA.out.mono hBw fun _ _ h=>h).case hlt
     subst hco;have hcl:=zgo hlt;generalize x.cases[k].to=ct at *;generalize x.cases[k].lit=cl at *;have hwr1:=zzV u.lits.length (by omega)
     clear hxr hur hBw q1;by_cases hin:0<=cl/\cl<=(u.lits.length:Int)-1
     ·obtain⟨m,rfl⟩: ∃m:Nat,cl=(m:Int):=⟨cl.toNat,by omega⟩
      have hm:m<u.lits.length:=by omega
      have hw1:=zd0 hin.1 hin.2;have hwc:=fun wx=>zJ (m:Int) 0 ((u.lits.length:Int)-1) wx
      have HW1:=zzH hw1;rw [hw1]at hwc;obtain⟨b2,off2,ai,ci,hlo,hb2,p0,p1,p2,p3,p4,p5,p6,p7,p8,hit,hok⟩:=(HLI.out.below HBWR.out).at'.tm hm;have hla:=zep hm;refine zzK3 hcl hit hok fun HCL HIT HOK=>?_;subst hlo;clear hcl hw1 hin rl rt hit hok;generalize hkk:(u.lits[m]).kind=kk at p0;have HKK:=zzH hkk;clear hkk;by_cases hko:kk=1\/kk=2\/kk=8
      ·have HKO:Hid (zcV u.lits[m]=true):=zzH (by unfold zcV;rw [HKK.out];exact zzT hko)
       by_cases k0:k=0
       ·have HK2:Hid (∀j,j<k+1->zcf u.lits x.cases j=true):=zzH (fun j hj=>by
         obtain rfl:j=k:=by omega
         unfold zcf;rw [HCL.out,HW1.out,hla,HKO.out,decide_eq_true k0];rfl)
        have hd0:decide ((0:Int)<(k:Int))=false:=zzD (by omega);have hd1:decide (0<k)=false:=zzD (by omega);clear k0;rcases hko with rfl|rfl|rfl
        all_goals
         go_wp2_with (go_at_call 72;refine(hwc _).mono ?_;rintro e w1 ⟨rfl,rfl⟩);go_quiet (fail);go_wp2_with fail;go_roundw
         case rel=>exact⟨k+1,by omega,by go_num,HK2,zm HBWR.out _⟩
         case measure=>simp [intOf];omega
       ·obtain⟨k',hk'⟩: ∃k',k=k'+1:=⟨k-1,by omega⟩
        have hlt':k'<x.cases.length:=by omega
        have hprev:=HK.out k' (by omega);obtain⟨b1',off1',hco',hb1',q0',q1',rl',rt'⟩:=(HCA.out.mono HBWR.out fun _ _ h=>h).case hlt';obtain⟨rfl,rfl⟩:b1=b1'/\off1=off1':=by injection hco' with h;injection h with h1 h2;exact⟨h1,h2⟩
        have hcl':=zgo hlt';generalize x.cases[k'].lit=cl' at *;generalize x.cases[k'].to=ct' at *;unfold zcf at hprev;rw [hcl']at hprev
        have hpin:0<=cl'/\cl'<=(u.lits.length:Int)-1:=by
         exact zz55
        obtain⟨m',rfl⟩: ∃m':Nat,cl'=(m':Int):=⟨cl'.toNat,by omega⟩;have hm':m'<u.lits.length:=by omega
        rw [zep hm']at hprev
        have hko':zcV u.lits[m']=true:=by
         cases h:zcV u.lits[m']with
         |true=>rfl
         |false=>rw [h]at hprev;simp at hprev
        have HLW:=zzH (HLI.out.below HBWR.out);obtain⟨b2',off2',ai',ci',hlo',hb2',r0,r1,r2,r3,r4,r5,r6,r7,r8,hit',hok'⟩:=HLW.out.at'.tm hm';obtain⟨rfl,rfl⟩:b2=b2'/\off2=off2':=by injection hlo' with h;injection h with h1 h2;exact⟨h1,h2⟩
        have hLess:=zlN (ci:=ci') (cj:=ci) HLW.out hm' hm hko' HKO.out hit' HIT.out hok' HOK.out
        have HOKK:Hid (zcf u.lits x.cases k=decide (zcl u.lits[m'] u.lits[m]<0)):=zzH (by
         unfold zcf;rw [HCL.out,HW1.out,hla,HKO.out,decide_eq_false k0,hk',Nat.add_sub_cancel,hcl',zep hm'];simp)
        have hd0:decide ((0:Int)<(k:Int))=true:=zzT (by omega);have hd1:decide (0<k)=true:=zzT (by omega);have hwk:IntKind.i64.wrap ((k:Int)-1)=(k':Int):=by rw [zzq2];omega
        rw [HKK.out]at hLess;have HDW:Hid (Below wr.heap.size wr wr.drew):=zzH (zzR _ _).drew;have SK0:=zzH (zby HDW.out);clear q1' hprev hpin hcl' hla hit' hok' hlo' hco' rl' rt' k0 hk' hb1' hb2';generalize zcl u.lits[m'] u.lits[m]=q at *;generalize u.lits[m']=t' at *;generalize u.lits[m]=t at *;by_cases hq:q<0
        ·have HK2:Hid (∀j,j<k+1->zcf u.lits x.cases j=true):=zzH (fun j hj=>by
          rcases Nat.eq_or_lt_of_le (Nat.le_of_lt_succ hj)with h|h
          ·rw [h,HOKK.out];exact zzT hq
          ·exact HK.out j h)
         rcases hko with rfl|rfl|rfl
         all_goals
          go_wp2_with (go_at_call 72;refine(hwc _).mono ?_;rintro e w1 ⟨rfl,rfl⟩)
          first|go_region_held3 (fun w'=>wr.heap.size<=w'.heap.size/\ ∀b o,b<wr.heap.size->w'.cell? ⟨b,o,none⟩=wr.cell? ⟨b,o,none⟩) (first|with_reducible exact SK0.out|with_reducible exact HK5.out)
           ((go_at_call 81;refine(hLess _ HDW.out).mono ?_;rintro e w5 ⟨rfl,hb5⟩;have HK5:=zzH (zby (ze HDW.out hb5));have HB5:=zzH (ze HDW.out hb5)))|fail
          go_wp2_with fail;go_roundw
          case rel=>exact⟨k+1,by omega,by go_num,HK2,HBWR.out.trans (HB5.out.mono HBWR.out.size)⟩
          case measure=>simp [intOf];omega
        ·have hq':0<=q:=by omega
         have E:Hid (zbl u.lits x=false):=zzH (by rw [HE1.out,zd9 hlt (HOKK.out.trans (decide_eq_false hq)),Bool.false_and,Bool.and_false]);clear hq;rcases hko with rfl|rfl|rfl
         all_goals
          go_wp2_with (go_at_call 72;refine(hwc _).mono ?_;rintro e w1 ⟨rfl,rfl⟩)
          first|go_region_held3 (fun w'=>wr.heap.size<=w'.heap.size/\ ∀b o,b<wr.heap.size->w'.cell? ⟨b,o,none⟩=wr.cell? ⟨b,o,none⟩) (first|with_reducible exact SK0.out|with_reducible exact HK5.out)
           ((go_at_call 81;refine(hLess _ HDW.out).mono ?_;rintro e w5 ⟨rfl,hb5⟩;have HK5:=zzH (zby (ze HDW.out hb5));have HB5:=zzH (ze HDW.out hb5)))|fail
          go_wp2;go_ret;exact⟨zl E.out.symm,by rw [HBZ.out];exact HFIN.out _ (HBWR.out.trans (HB5.out.mono HBWR.out.size))⟩
      ·have E:Hid (zbl u.lits x=false):=zzH (by
        rw [HE1.out,zd9 hlt (by
         unfold zcf zcV;rw [HCL.out,HW1.out,hla,HKK.out,decide_eq_false hko];rfl),Bool.false_and,Bool.and_false])
       have t1 : (kk != 1) = true := by rw [bne_iff_ne]; exact fun h => hko (.inl h)
       have t2 : (kk != 2) = true := by rw [bne_iff_ne]; exact fun h => hko (.inr (.inl h))
       have t8 : (kk != 8) = true := by rw [bne_iff_ne]; exact fun h => hko (.inr (.inr h))
       clear hko;exact zz178
     ·have E:Hid (zbl u.lits x=false):=zzH (by rw [HE1.out,zd9 hlt (by unfold zcf;rw [hcl,zdx hin];rfl),Bool.false_and,Bool.and_false])
      have hw0:=zdx hin;have hwc:=fun wx=>zJ cl 0 ((u.lits.length:Int)-1) wx
      rw [hw0]at hwc;clear hcl hw0 hin;exact zz178
    ·have HC1:Hid (zdZ u.lits x.cases=true):=zzH (zhw (fun j hj=>HK.out j (by omega)))
     have HE2:Hid (zbl u.lits x=(decide ((x.segs.length:Int)<=60)&&x.segs.all (zbE u.lits.length))):=zzH (by rw [HE1.out,HC1.out,zzq15]);clear HE1 HC1 HK hxr hur hBw;by_cases s60:(x.segs.length:Int)<=60
     ·have HE3:Hid (zbl u.lits x=x.segs.all (zbE u.lits.length)):=zzH (by rw [HE2.out,decide_eq_true s60,zzq15])
      have HI:Hid (x.segs.all (zbE u.lits.length)=(x.segs.drop 0).all (zbE u.lits.length)):=zzH rfl;clear HE2;obtain⟨wo,rfl⟩: ∃wo:World,wo=wr:=⟨_,rfl⟩;go_wp2_with fail;go_loopw [8,9] (fun i _ wq=> ∃k:Nat,k<=x.segs.length/\i= .int .i64 k/\Hid (x.segs.all (zbE u.lits.length)=(x.segs.drop k).all (zbE u.lits.length))/\Below W.heap.size W wq) (fun i _ _=>x.segs.length-(intOf i).toNat)
      case atStart=>exact⟨0,zzZ _,rfl,HI,HBWR.out⟩
      case round=>
       obtain⟨k,hk,rfl,HK,hBq⟩:=hrel;rename World=>wr
       clear c8 c9 hlx hlu u2 HBWR;have hxr:=HX.out.below hBq;have hur:=HU.out.below hBq;have HBQ:=zzH hBq;have c9:=hxr.c9;have hlx:=hxr.lt;have hlu:=hur.lt;clear hxr;by_cases hlt:k<x.segs.length
       ·obtain⟨b1,off1,hgo,hb1,s0,s1,s2,s3,s4,s5,t0,t1,t2,t3,t4⟩:=(HSE.out.mono hBq fun _ _ h=>h).seg hlt
        subst hgo;have HST:Hid ((x.segs.drop k).all (zbE u.lits.length)=(zbE u.lits.length x.segs[k]&&(x.segs.drop (k+1)).all (zbE u.lits.length))):=zzH (by rw [List.drop_eq_getElem_cons hlt,List.all_cons]);have hop1:=fun wx=>zek u lo fo go co lc fc gc cc x.segs[k].val wx hl ⟨t1,t2⟩
        have hop2:=fun wx=>zek u lo fo go co lc fc gc cc x.segs[k].size wx hl ⟨t3,t4⟩
        have hno:=fun wx=>zim x.segs[k].size wx
        have HSB:Hid (zbE u.lits.length x.segs[k]=(wi x.segs[k].type 1 3&&(zbh u.lits.length x.segs[k].val&&((zd2 x.segs[k].size||zbh u.lits.length x.segs[k].size)&&(!x.segs[k].little||x.segs[k].type==1))))):=zzH rfl;have hwt:=fun wx=>zJ x.segs[k].type 1 3 wx
        refine zzK3 hop1 hop2 hno fun HOP1 HOP2 HNO=>?_;clear hop1 hop2 hno;generalize zbE u.lits.length x.segs[k]=sb at *;generalize zbh u.lits.length x.segs[k].val=ov at *;generalize zbh u.lits.length x.segs[k].size=os at *;generalize zd2 x.segs[k].size=nz at *;generalize wi x.segs[k].type 1 3=wt at *;generalize x.segs[k]=g at *;obtain⟨ty,⟨vk,vn⟩,⟨sk,sn⟩,lit⟩:=g;simp only at *;have hbx:Below wr.heap.size wr (wr.alloc (.cells #[.int .i64 ty,.int .i64 vk,.int .i64 vn,.int .i64 sk,.int .i64 sn,.bool lit] 126)):=zzE _ _;have hbr:=zzF wr (.cells #[.int .i64 ty,.int .i64 vk,.int .i64 vn,.int .i64 sk,.int .i64 sn,.bool lit] 126);refine zzK3 hbx hbr hur fun HBX HBR HUR=>?_;clear hbx hbr t0 t1 t2 t3 t4 hBq hur;have u0:=(HUR.out.below HBX.out).c0;have u1:=(HUR.out.below HBX.out).c1;have u2:=(HUR.out.below HBX.out).c2;have u3:=(HUR.out.below HBX.out).c3;have u4:=(HUR.out.below HBX.out).c4;have u5:=(HUR.out.below HBX.out).c5
        cases wt with
        |false=>
         have E:Hid (zbl u.lits x=false):=zzH (by rw [HE3.out,HK.out,HST.out,HSB.out];simp);go_wp2_with (go_at_call 72;refine(hwt _).mono ?_;rintro e w1 ⟨rfl,rfl⟩);go_ret;exact⟨zl E.out.symm,by rw [HBZ.out];exact HFIN.out _ (HBQ.out.trans (HBX.out.mono HBQ.out.size))⟩
        |true=>
         go_wp2_with (go_at_call 72;refine(hwt _).mono ?_;rintro e w1 ⟨rfl,rfl⟩);refine(HOP1.out _).mono ?_;rintro e w5 ⟨rfl,hb5⟩;have HB5:=zzH (ze HBX.out hb5);have hbra:=(hb5.block wr.heap.size (zd HBR.out)).trans HBR.out;obtain⟨g0,g1,g2,g3,g4,g5⟩:=zc7 hbra;have hlra:=zd hbra;clear u0 u1 u2 u3 u4 u5;have u0:=(HUR.out.below HB5.out).c0;have u1:=(HUR.out.below HB5.out).c1;have u2:=(HUR.out.below HB5.out).c2;have u3:=(HUR.out.below HB5.out).c3;have u4:=(HUR.out.below HB5.out).c4;have u5:=(HUR.out.below HB5.out).c5;have hlua:=(HUR.out.below HB5.out).lt;have HBRA:=zzH hbra;clear hb5 hbra
         cases ov with
         |false=>
          have E:Hid (zbl u.lits x=false):=zzH (by rw [HE3.out,HK.out,HST.out,HSB.out];simp []);go_wp2;go_ret;exact⟨zl E.out.symm,by rw [HBZ.out];exact HFIN.out _ (HBQ.out.trans (HB5.out.mono HBQ.out.size))⟩
         |true=>
          go_wp2_with fail;refine(HOP2.out _).mono ?_;rintro e w6 ⟨rfl,hb6⟩;have HB6:=zzH (ze HB5.out hb6);have hbrb:=(hb6.block wr.heap.size hlra).trans HBRA.out;clear g0 g1 g2 g3 g4 g5 u0 u1 u2 u3 u4 u5;obtain⟨g0,g1,g2,g3,g4,g5⟩:=zc7 hbrb;have hlrb:=zd hbrb;have HBRB:=zzH hbrb;clear hb6 hbrb
          cases os with
          |true=>
           cases lit with
           |false=>
            have HK2:Hid (x.segs.all (zbE u.lits.length)=(x.segs.drop (k+1)).all (zbE u.lits.length)):=zzH (by rw [HK.out,HST.out,HSB.out];simp []);exact zz176
           |true=>
            cases ty1:(ty==1)with
            |true=>
             have ty2 : (ty != 1) = false := by unfold bne; rw [ty1]; rfl
             have HK2:Hid (x.segs.all (zbE u.lits.length)=(x.segs.drop (k+1)).all (zbE u.lits.length)):=zzH (by rw [HK.out,HST.out,HSB.out];simp [ty1]);exact zz176
            |false=>
             have ty2 : (ty != 1) = true := by unfold bne; rw [ty1]; rfl
             have E:Hid (zbl u.lits x=false):=zzH (by rw [HE3.out,HK.out,HST.out,HSB.out];simp [ty1]);go_wp2;go_ret;exact⟨zl E.out.symm,by rw [HBZ.out];exact HFIN.out _ (HBQ.out.trans (HB6.out.mono HBQ.out.size))⟩
          |false=>
           go_wp2_with fail;refine(HNO.out _).mono ?_;rintro e w7 ⟨rfl,hb7⟩;have HB7:=zzH (ze HB6.out hb7);have hbrc:=(hb7.block wr.heap.size hlrb).trans HBRB.out;clear g0 g1 g2 g3 g4 g5;obtain⟨g0,g1,g2,g3,g4,g5⟩:=zc7 hbrc;have hlrc:=zd hbrc;clear hb7 hbrc
           cases nz with
           |false=>
            have E:Hid (zbl u.lits x=false):=zzH (by rw [HE3.out,HK.out,HST.out,HSB.out];simp []);exact zz181
           |true=>
            cases lit with
            |false=>
             have HK2:Hid (x.segs.all (zbE u.lits.length)=(x.segs.drop (k+1)).all (zbE u.lits.length)):=zzH (by rw [HK.out,HST.out,HSB.out];simp []);exact zz177
            |true=>
             cases ty1:(ty==1)with
             |true=>
              have ty2 : (ty != 1) = false := by unfold bne; rw [ty1]; rfl
              have HK2:Hid (x.segs.all (zbE u.lits.length)=(x.segs.drop (k+1)).all (zbE u.lits.length)):=zzH (by rw [HK.out,HST.out,HSB.out];simp [ty1]);exact zz177
             |false=>
              have ty2 : (ty != 1) = true := by unfold bne; rw [ty1]; rfl
              have E:Hid (zbl u.lits x=false):=zzH (by rw [HE3.out,HK.out,HST.out,HSB.out];simp [ty1]);exact zz181
       ·have E:Hid (zbl u.lits x=true):=zzH (by rw [HE3.out,HK.out,zzq10 (by omega)];rfl)
        go_wp2;go_ret;exact⟨zl E.out.symm,by rw [HBZ.out];exact HFIN.out _ HBQ.out⟩
     ·have s60':60<(x.segs.length:Int):=by omega
      have E:Hid (zbl u.lits x=false):=zzH (by rw [HE2.out,decide_eq_false s60];rfl);clear s60;go_wp2;go_ret;exact⟨zl E.out.symm,by rw [HBZ.out];exact HFIN.out _ HBWR.out⟩
theorem zgZ {n:ByteArray} {a:Int}: ∀(l:List RFunc) (i k:Nat) (h:k<l.length),l[k].name=n->l[k].arity=a-> ∃j,zcK n a l i=some (i+j)/\j<=k/\(zck (l.take k) n a=decide (j<k))
 |[],_,_,h,_,_=>absurd h (zzC _)
 |x::l,i,k,h,hn,ha=>by
  by_cases hx:x.name=n/\x.arity=a
  ·refine⟨0,by unfold zcK;rw [if_pos hx];rfl,zzZ _,?_⟩
   cases k with
   |zero=>rfl
   |succ k=>
    rw [List.take_succ_cons,decide_eq_true (Nat.succ_pos k)];unfold zck;rw [List.any_cons,hx.1,hx.2];simp
  ·cases k with
   |zero=>exact absurd ⟨hn,ha⟩ hx
   |succ k=>
    obtain⟨j,h1,h2,h3⟩:=zgZ l (i+1) k (by simpa using h) hn ha;refine⟨j+1,by unfold zcK;rw [if_neg hx,h1];congr 1;omega,by omega,?_⟩;rw [List.take_succ_cons]
    have e:zck (x::l.take k) n a=zck (l.take k) n a:=by
     unfold zck;rw [List.any_cons]
     have:(x.name.data.toList==n.data.toList&&x.arity==a)=false:=by
      rw [Bool.and_eq_false_iff];by_cases h1:x.name=n
      ·right;rw [zzq1];exact fun h=>hx ⟨h1,h⟩
      ·left;rw [zzq1];intro h2
       apply h1;have:x.name.data=n.data:=Array.toList_inj.1 h2;exact congrArg ByteArray.mk this
     rw [this,zzq9]
    rw [e,h3,Bool.eq_iff_iff,zzq8,zzq8];omega
theorem zoK (funcs:List RFunc) (k:Nat) (h:k<funcs.length): ∃j:Nat,zfx funcs[k].name funcs[k].arity funcs=j/\j<=k/\zck (funcs.take k) funcs[k].name funcs[k].arity=decide (j<k):=by
 obtain⟨j,h1,h2,h3⟩:=zgZ funcs 0 k h rfl rfl;refine⟨j,?_,h2,h3⟩;unfold zfx;rw [h1];simp
theorem zls {last:Int} {funcs:List RFunc} (h: ∀k,(h:k<funcs.length)->zdN last funcs[k]=true/\zck (funcs.take k) funcs[k].name funcs[k].arity=false):zdB last funcs=true:=zzT h
theorem zp6 (u:RUnit):zfw u=(zy u.mdl&&(decide (1<=u.vsn)&&(decide (u.vsn<=2147483647)&&(wi u.code.length 1 524288&&(decide (u.lits.length<=65535)&&(decide (u.funcs.length<=200)&&decide (u.funs.length<=1000))))))):=by
 unfold zfw wi
 have e:(decide (0<=(u.code.length:Int)-1)&&decide ((u.code.length:Int)-1<524288))=(decide ((1:Int)<=u.code.length)&&decide ((u.code.length:Int)<=524288)):=by
  rw [Bool.eq_iff_iff];simp only [zzq4,zzq8];omega
 rw [<-Bool.and_assoc (decide (0<=_)),e]
theorem zjJ (f:Nat) (u:RUnit) (lo fo go co:zzA) (lc fc gc cc:Nat) (w:World) (hp:UP w u lo fo go co) (hlits:SlAt w 9 (TmAt w (f+1)) lo u.lits) (hcap: ∀t∈u.lits,(zR (f+1) t:Int)<=1152921504606846976):
  Calls Tryz.prog 33 #[.agg (zzu u lo lc fo fc go gc co cc)] w fun e w'=>e= .returned (.bool (zP (f+1) u))/\Below w.heap.size w w':=by
 unfold zzu;have HE:Hid (zP (f+1) u=(zfw u&&(u.lits.all (zM (f+1))&&(zdB ((u.code.length:Int)-1) u.funcs&&u.funs.all (zcs ((u.code.length:Int)-1)))))):=zzH rfl;have hta:=zp6 u;have hl1:=hp.litsLen;have hl2:=hp.funcsLen;have hl3:=hp.funsLen;have hl4:=hp.codeLen;have hmd:u.mdl.size<=maxLen:=by unfold maxLen;exact hp.mdlLen
 have hwc:=fun wx=>zJ (u.code.length:Int) 1 524288 wx
 have hnm:=fun wx=>zdv u.mdl wx hmd
 refine zzK3 hp hlits hcap fun HP0 HLT0 HCAP=>?_;clear hp hlits hcap hmd;have hbx:=zd3 w u lo fo go co lc fc gc cc;have hba:Below w.heap.size w (w.alloc (.cells (zzu u lo lc fo fc go gc co cc) 27)):=zzE _ _;go_in;go_upto_region 1 with fail;generalize w.alloc (.cells (zzu u lo lc fo fc go gc co cc) 27)=W at *;refine zzK3 hba (HP0.out.below hba) (HLT0.out.tms hba) fun HBA HP HLT=>?_;clear hba HP0 HLT0;generalize hBz:w.heap.size=B at *;have HBZ:=zzH hBz;clear hBz;have HFIN:Hid (∀wx,Below W.heap.size W wx->Below B w wx):=zzH (fun wx hh=>HBA.out.trans (hh.mono (by have:=HBA.out.size;have:=HBZ.out;omega)));have HU:=zzH hbx;have c0:=hbx.c0;have c1:=hbx.c1;have c2:=hbx.c2;have c3:=hbx.c3;have c4:=hbx.c4;have c5:=hbx.c5;have hlu:=hbx.lt;clear hbx;generalize zfw u=ta at *;have HTA:=zzH hta;clear hta;go_cut [48] (fun s wx=> ∃n1:Bool,s= .bool n1/\Hid (n1= !ta)/\W=wx)
 case first=>
  generalize zy u.mdl=nm at *;generalize wi u.code.length 1 524288=wc at *
  cases nm with
  |false=>
   have E:Hid (true= !ta):=zzH (by rw [HTA.out];rfl);exact zz184
  |true=>
   by_cases v1:u.vsn<1
   ·have E:Hid (true= !ta):=zzH (by rw [HTA.out,decide_eq_false (by omega: ¬(1<=u.vsn))];rfl)
    exact zz184
   have d1:decide (1<=u.vsn)=true:=zzT (by omega);by_cases v2:2147483647<u.vsn
   ·have E:Hid (true= !ta):=zzH (by rw [HTA.out,d1,decide_eq_false (by omega: ¬(u.vsn<=2147483647))];rfl)
    clear d1;exact zz184
   have d2:decide (u.vsn<=2147483647)=true:=zzT (by omega);by_cases n1:65535<u.lits.length
   ·have E:Hid (true= !ta):=zzH (by rw [HTA.out,d1,d2,decide_eq_false (by omega: ¬(u.lits.length<=65535))];cases wc<;>rfl)
    have n1':(65535:Int)<(u.lits.length:Int):=by omega
    clear d1 d2;exact zz184
   have d3:decide (u.lits.length<=65535)=true:=zzT (by omega);by_cases n2:200<u.funcs.length
   ·have E:Hid (true= !ta):=zzH (by rw [HTA.out,d1,d2,d3,decide_eq_false (by omega: ¬(u.funcs.length<=200))];cases wc<;>rfl)
    have n1':(u.lits.length:Int)<=65535:=by omega
    have n2':(200:Int)<(u.funcs.length:Int):=by omega
    clear d1 d2 d3;exact zz184
   have d4:decide (u.funcs.length<=200)=true:=zzT (by omega);by_cases n3:1000<u.funs.length
   ·have E:Hid (true= !ta):=zzH (by rw [HTA.out,d1,d2,d3,d4,decide_eq_false (by omega: ¬(u.funs.length<=1000))];cases wc<;>rfl)
    have n1':(u.lits.length:Int)<=65535:=by omega
    have n2':(u.funcs.length:Int)<=200:=by omega
    have n3':(1000:Int)<(u.funs.length:Int):=by omega
    clear d1 d2 d3 d4;exact zz184
   have d5:decide (u.funs.length<=1000)=true:=zzT (by omega);have E:Hid ((!wc)= !ta):=zzH (by rw [HTA.out,d1,d2,d3,d4,d5];cases wc<;>rfl);have n1':(u.lits.length:Int)<=65535:=by omega
   have n2':(u.funcs.length:Int)<=200:=by omega
   have n3':(u.funs.length:Int)<=1000:=by omega
   clear d1 d2 d3 d4 d5
   cases wc with
   |false=>
    go_wp2_with (first|(go_at_call 71;refine(hnm _).mono ?_;rintro e w1 ⟨rfl,rfl⟩)|(go_at_call 72;refine(hwc _).mono ?_;rintro e w1 ⟨rfl,rfl⟩));go_meet
    case rel=>exact⟨_,rfl,E,rfl⟩
   |true=>
    go_wp2_with (first|(go_at_call 71;refine(hnm _).mono ?_;rintro e w1 ⟨rfl,rfl⟩)|(go_at_call 72;refine(hwc _).mono ?_;rintro e w1 ⟨rfl,rfl⟩));go_meet
    case rel=>exact⟨_,rfl,zzH (by rw [decide_eq_false (by omega: ¬u.vsn<1),decide_eq_false (by omega: ¬2147483647<u.vsn),decide_eq_false (by omega: ¬(65535:Int)<(u.lits.length:Int)),decide_eq_false (by omega: ¬(200:Int)<(u.funcs.length:Int)),decide_eq_false (by omega: ¬(1000:Int)<(u.funs.length:Int))];exact E.out),rfl⟩
 case rest=>
  obtain⟨n1,rfl,hn1,rfl⟩:=hcut;clear HTA hwc hnm
  cases ta with
  |false=>
   exact zz180
  |true=>
   obtain rfl:n1=false:=hn1.out;have HE1:Hid (zP (f+1) u=(u.lits.all (zM (f+1))&&(zdB ((u.code.length:Int)-1) u.funcs&&u.funs.all (zcs ((u.code.length:Int)-1))))):=zzH (by rw [HE.out,zzq15]);have HK0:Hid (u.lits.all (zM (f+1))=(u.lits.drop 0).all (zM (f+1))):=zzH rfl;clear HE;go_wp2_with fail;go_loopw [3] (fun i wr=> ∃k:Nat,k<=u.lits.length/\i= .int .i64 k/\Hid (u.lits.all (zM (f+1))=(u.lits.drop k).all (zM (f+1)))/\Below W.heap.size W wr) (fun i _=>u.lits.length-(intOf i).toNat)
   case atStart=>exact⟨0,zzZ _,rfl,HK0,zzR _ _⟩
   case round=>
    obtain⟨k,hk,rfl,HK,hBw⟩:=hrel;rename World=>wr
    clear c0 c1 c2 c3 c4 c5 hlu;have hur:=HU.out.below hBw;have HBWR:=zzH hBw;have c2:=hur.c2;have c3:=hur.c3;have hlu:=hur.lt;clear hur hBw;by_cases hlt:k<u.lits.length
    ·obtain⟨b2,off2,ai,ci,hlo,hb2,p0,p1,p2,p3,p4,p5,p6,p7,p8,hit,hok⟩:=(HLT.out.tms HBWR.out).tm hlt
     subst hlo;have hv:=zff f u.lits[k] ai ci wr hit hok (HCAP.out _ (zzM hlt));have HSTP:=zzH (zfv (p:=zM (f+1)) hlt);clear hit hok;generalize zM (f+1) u.lits[k]=vv at *;generalize u.lits[k]=t at *
     cases vv with
     |false=>
      have E:Hid (zP (f+1) u=false):=zzH (by rw [HE1.out,HK.out,HSTP.out];rfl);go_wp2_with fail;refine hv.mono ?_;rintro e w5 ⟨rfl,hb5⟩;go_wp2;go_ret;exact⟨zl E.out.symm,by rw [HBZ.out];exact HFIN.out _ (ze HBWR.out hb5)⟩
     |true=>
      have HK2:Hid (u.lits.all (zM (f+1))=(u.lits.drop (k+1)).all (zM (f+1))):=zzH (by rw [HK.out,HSTP.out,zzq15]);go_wp2_with fail;refine hv.mono ?_;rintro e w5 ⟨rfl,hb5⟩;go_wp2_with fail;go_roundw
      case rel=>exact⟨k+1,by omega,by go_num,HK2,ze HBWR.out hb5⟩
      case measure=>simp [intOf];omega
    ·have HE2:Hid (zP (f+1) u=(zdB ((u.code.length:Int)-1) u.funcs&&u.funs.all (zcs ((u.code.length:Int)-1)))):=zzH (by rw [HE1.out,HK.out,zzq10 (by omega)];rfl)
     have HF0:Hid (∀j,(h:j<u.funcs.length)->j<0->zdN ((u.code.length:Int)-1) u.funcs[j]=true/\zck (u.funcs.take j) u.funcs[j].name u.funcs[j].arity=false):=zzH (fun j h hj=>absurd hj (zzC _));clear HE1 HK;obtain⟨wo,rfl⟩: ∃wo:World,wo=wr:=⟨_,rfl⟩;go_wp2_with fail;go_loopw [4,5,6,7] (fun i _ _ _ wq=> ∃k:Nat,k<=u.funcs.length/\i= .int .i64 k/\Hid (∀j,(h:j<u.funcs.length)->j<k->zdN ((u.code.length:Int)-1) u.funcs[j]=true/\zck (u.funcs.take j) u.funcs[j].name u.funcs[j].arity=false)/\Below W.heap.size W wq) (fun i _ _ _ _=>u.funcs.length-(intOf i).toNat)
     case atStart=>exact⟨0,zzZ _,rfl,HF0,HBWR.out⟩
     case round=>
      obtain⟨k,hk,rfl,HK,hBq⟩:=hrel;rename World=>wr
      clear c2 c3 hlu HBWR HF0;have hur:=HU.out.below hBq;have HBQ:=zzH hBq;have c3:=hur.c3;have c4:=hur.c4;have c5:=hur.c5;have hlu:=hur.lt;by_cases hlt:k<u.funcs.length
      ·obtain⟨b1,off1,hfo,hb1,s0,s1,s2,s3,t0,t1,t2⟩:=(HP.out.funcs.mono hBq fun _ _ h=>h).func hlt
       subst hfo;obtain⟨j,hj1,hj2,hj3⟩:=zoK u.funcs k hlt;have hfn:zdN ((u.code.length:Int)-1) u.funcs[k]=(zy u.funcs[k].name&&(wi u.funcs[k].arity 0 16&&wi u.funcs[k].entry 0 ((u.code.length:Int)-1))):=rfl;have hbox:=zzF wr (.cells #[.string u.funcs[k].name,.int .i64 u.funcs[k].arity,.bool u.funcs[k].pub,.int .i64 u.funcs[k].entry] 70);have hbxb:Below wr.heap.size wr (wr.alloc (.cells #[.string u.funcs[k].name,.int .i64 u.funcs[k].arity,.bool u.funcs[k].pub,.int .i64 u.funcs[k].entry] 70)):=zzE _ _;have hfi:=zne u lo (some ⟨b1,off1,none⟩) go co lc fc gc cc u.funcs[k].name u.funcs[k].arity _ (HP.out.below (hBq.trans (hbxb.mono hBq.size)));rw [hj1]at hfi;have hNO:(zdN ((u.code.length:Int)-1) u.funcs[k]=false\/zck (u.funcs.take k) u.funcs[k].name u.funcs[k].arity=true)->zP (f+1) u=false:=fun h=>by rw [HE2.out,zh5 hlt h];rfl
       have hYES:zdN ((u.code.length:Int)-1) u.funcs[k]=true->zck (u.funcs.take k) u.funcs[k].name u.funcs[k].arity=false-> ∀j,(h:j<u.funcs.length)->j<k+1->zdN ((u.code.length:Int)-1) u.funcs[j]=true/\zck (u.funcs.take j) u.funcs[j].name u.funcs[j].arity=false:=fun h1 h2 j h hj=>by
        rcases Nat.lt_or_ge j k with h3|h3
        ·exact HK.out j h h3
        ·obtain rfl:j=k:=by omega
         exact⟨h1,h2⟩
       rw [hj3]at hNO hYES;rw [hfn]at hNO hYES;refine zzK3 hNO hYES hfi fun HNO HYES HFI=>?_;have hwr1:=zzV u.code.length (by omega)
       have hn:=fun wx=>zdv u.funcs[k].name wx t0
       have hw1:=fun wx=>zJ u.funcs[k].arity 0 16 wx
       have hw2:=fun wx=>zJ u.funcs[k].entry 0 ((u.code.length:Int)-1) wx
       refine zzK3 (hur.below hbxb) hbxb hbox fun HUX HBX HBOX=>?_;clear hNO hYES hj1 hj3 hfn hfi hbxb hbox hur hBq t0 t1 t2;generalize zgr u.funcs[k].name u.funcs[k].arity u.funcs=fb at *;generalize zy u.funcs[k].name=nb at *;generalize wi u.funcs[k].arity 0 16=ab at *;generalize wi u.funcs[k].entry 0 ((u.code.length:Int)-1)=eb at *;generalize u.funcs[k]=fn at *;obtain⟨fnm,far,fpb,fen⟩:=fn;simp only at *
       cases nb with
       |false=>
        exact zz183
       |true=>
        cases ab with
        |false=>
         exact zz183
        |true=>
         cases eb with
         |false=>
          exact zz183
         |true=>
          have u0:=HUX.out.c0;have u1:=HUX.out.c1;have u2:=HUX.out.c2;have u3:=HUX.out.c3;have u4:=HUX.out.c4;have u5:=HUX.out.c5;by_cases hjk:j<k
          ·have E:=zzH (HNO.out (.inr (zzT hjk)))
           have hjk':(j:Int)<(k:Int):=by omega
           go_wp2_with (first|(go_at_call 71;refine(hn _).mono ?_;rintro e w1 ⟨rfl,rfl⟩)|(go_at_call 72;first|((with_reducible refine(hw1 _).mono ?_);rintro e w1 ⟨rfl,rfl⟩)|((with_reducible refine(hw2 _).mono ?_);rintro e w1 ⟨rfl,rfl⟩)));refine HFI.out.mono ?_;rintro e w5 ⟨rfl,hb5⟩;go_wp2;go_ret;exact⟨zl E.out.symm,by rw [HBZ.out];exact HFIN.out _ (HBQ.out.trans ((ze HBX.out hb5).mono HBQ.out.size))⟩
          ·have HK2:=zzH (HYES.out rfl (zzD hjk))
           have hjk':(k:Int)<=(j:Int):=by omega
           go_wp2_with (first|(go_at_call 71;refine(hn _).mono ?_;rintro e w1 ⟨rfl,rfl⟩)|(go_at_call 72;first|((with_reducible refine(hw1 _).mono ?_);rintro e w1 ⟨rfl,rfl⟩)|((with_reducible refine(hw2 _).mono ?_);rintro e w1 ⟨rfl,rfl⟩)));refine HFI.out.mono ?_;rintro e w5 ⟨rfl,hb5⟩;go_wp2_with fail;go_roundw
           case rel=>exact⟨k+1,by omega,by go_num,HK2,HBQ.out.trans ((ze HBX.out hb5).mono HBQ.out.size)⟩
           case measure=>simp [intOf];omega
      ·have HE3:Hid (zP (f+1) u=u.funs.all (zcs ((u.code.length:Int)-1))):=zzH (by rw [HE2.out,zls (fun j h=>HK.out j h (by omega)),zzq15])
       have HG0:Hid (u.funs.all (zcs ((u.code.length:Int)-1))=(u.funs.drop 0).all (zcs ((u.code.length:Int)-1))):=zzH rfl;clear HE2 HK hur hBq;obtain⟨wo,rfl⟩: ∃wo:World,wo=wr:=⟨_,rfl⟩;go_wp2_with fail;go_loopw [8,9] (fun i _ wq=> ∃k:Nat,k<=u.funs.length/\i= .int .i64 k/\Hid (u.funs.all (zcs ((u.code.length:Int)-1))=(u.funs.drop k).all (zcs ((u.code.length:Int)-1)))/\Below W.heap.size W wq) (fun i _ _=>u.funs.length-(intOf i).toNat)
       case atStart=>exact⟨0,zzZ _,rfl,HG0,HBQ.out⟩
       case round=>
        obtain⟨k,hk,rfl,HK,hBq⟩:=hrel;rename World=>wr
        clear c3 c4 c5 hlu HBQ HG0;have hur:=HU.out.below hBq;have HBQ:=zzH hBq;have c4:=hur.c4;have c5:=hur.c5;have hlu:=hur.lt;by_cases hlt:k<u.funs.length
        ·obtain⟨b1,off1,hfo,hb1,s0,s1,s2,t0,t1,t2⟩:=(HP.out.funs.mono hBq fun _ _ h=>h).fn hlt
         subst hfo;have HSTP:Hid ((u.funs.drop k).all (zcs ((u.code.length:Int)-1))=((wi u.funs[k].arity 0 16&&(wi u.funs[k].free 0 200&&wi u.funs[k].entry 0 ((u.code.length:Int)-1)))&&(u.funs.drop (k+1)).all (zcs ((u.code.length:Int)-1)))):=zzH (by rw [List.drop_eq_getElem_cons hlt,List.all_cons];rfl);have hbxb:Below wr.heap.size wr (wr.alloc (.cells #[.int .i64 u.funs[k].arity,.int .i64 u.funs[k].free,.int .i64 u.funs[k].entry] 84)):=zzE _ _;have hwr1:=zzV u.code.length (by omega)
         have hw1:=fun wx=>zJ u.funs[k].arity 0 16 wx
         have hw2:=fun wx=>zJ u.funs[k].free 0 200 wx
         have hw3:=fun wx=>zJ u.funs[k].entry 0 ((u.code.length:Int)-1) wx
         have HBX:=zzH hbxb;clear hbxb hur hBq t0 t1 t2;generalize wi u.funs[k].arity 0 16=ab at *;generalize wi u.funs[k].free 0 200=fb at *;generalize wi u.funs[k].entry 0 ((u.code.length:Int)-1)=eb at *;generalize u.funs[k]=fn at *;obtain⟨far,ffr,fen⟩:=fn;simp only at *
         cases ab with
         |false=>
          exact zz182
         |true=>
          cases fb with
          |false=>
           exact zz182
          |true=>
           cases eb with
           |false=>
            exact zz182
           |true=>
            have HK2:Hid (u.funs.all (zcs ((u.code.length:Int)-1))=(u.funs.drop (k+1)).all (zcs ((u.code.length:Int)-1))):=zzH (by rw [HK.out,HSTP.out];rfl);go_wp2_with (go_at_call 72;first|((with_reducible refine(hw1 _).mono ?_);rintro e w1 ⟨rfl,rfl⟩)|((with_reducible refine(hw2 _).mono ?_);rintro e w1 ⟨rfl,rfl⟩)|((with_reducible refine(hw3 _).mono ?_);rintro e w1 ⟨rfl,rfl⟩));go_roundw
            case rel=>exact⟨k+1,by omega,by go_num,HK2,HBQ.out.trans (HBX.out.mono HBQ.out.size)⟩
            case measure=>simp [intOf];omega
        ·have E:Hid (zP (f+1) u=true):=zzH (by rw [HE3.out,HK.out,zzq10 (by omega)];rfl)
         clear hur hBq;go_wp2;go_ret;exact⟨zl E.out.symm,by rw [HBZ.out];exact HFIN.out _ HBQ.out⟩
end Go.Proofs.YthajedcbgnloeaaGreatDoor
