import Derived.Test.YtijekmeocadkeaaGreatDoorW01
namespace Go.Proofs.YtijekmeocadkeaaGreatDoor
open Go.RowKit
set_option linter.unusedVariables false
set_option linter.unusedSimpArgs false
set_option maxRecDepth 100000
set_option maxHeartbeats 0
def dgt (m:Nat):UInt8:=UInt8.ofNat (48+m%10)
def zgN:Nat->Nat->List UInt8
 |0,_=>[]
 |f+1,m=>if m<10 then [dgt m]else zgN f (m/10)++ [dgt m]
def dig (m:Nat):List UInt8:=zgN (m+1) m
theorem zlZ: ∀(f g m:Nat),m<f->m<g->zgN f m=zgN g m
 |0,_,_,h,_=>absurd h (zzC _)
 |_,0,_,_,h=>absurd h (zzC _)
 |f+1,g+1,m,h1,h2=>by
  unfold zgN;by_cases h:m<10
  ·rw [if_pos h,if_pos h]
  ·rw [if_neg h,if_neg h,zlZ f g (m/10) (by omega) (by omega)]
theorem zd5 {m:Nat} (h:m<10):dig m= [dgt m]:=by unfold dig zgN;rw [if_pos h]
theorem zfM {m:Nat} (h: ¬m<10):dig m=dig (m/10)++ [dgt m]:=by
 unfold dig;rw [show zgN (m+1) m=zgN m (m/10)++ [dgt m]by rw [zgN,if_neg h],zlZ m (m/10+1) (m/10) (by omega) (by omega)]
theorem zlW: ∀(k m:Nat),m<10^(k+1)->(dig m).length<=k+1
 |0,m,h=>by rw [zd5 (by omega)];simp
 |k+1,m,h=>by
  by_cases hs:m<10
  ·rw [zd5 hs];simp
  ·have:=zlW k (m/10) (by rw [Nat.pow_succ]at h;omega)
   rw [zfM hs];simp;omega
theorem zfA {m:Nat} (h:m<=18446744073709551616):(dig m).length<=20:=zlW 19 m (by omega)
def txt (n:Int):List UInt8:=if n<0 then 45::dig n.natAbs else dig n.natAbs
def byteCells (cs:List UInt8):Array Value:=(cs.map fun b=>Value.int .u8 (b.toNat:Int)).toArray
theorem zey {cs:List UInt8} {j:Nat} (h:j<cs.length):(byteCells cs)[j]?=some (.int .u8 (cs[j].toNat:Int)):=by
 simp [byteCells,h]
theorem zg1 (cs:List UInt8) (j:Nat) (d:UInt8):(byteCells cs).setIfInBounds j (.int .u8 (d.toNat:Int))=byteCells (cs.set j d):=by
 simp [byteCells,List.map_set]
theorem zg7 (m:Nat):((dgt m).toNat:Int)=48+(m:Int)%10:=by
 unfold dgt;have h:(UInt8.ofNat (48+m%10)).toNat=(48+m%10)%256:=UInt8.toNat_ofNat';rw [h];omega
theorem zkS (cs:List UInt8) (k:Nat) (d:UInt8) (h:k<cs.length):(cs.set k d).drop k=d::cs.drop (k+1):=by
 rw [List.drop_eq_getElem_cons (by simpa using h),List.drop_set_of_lt (by omega)];simp
theorem zuz (j:Nat):(10:Nat)^(j+1)=10^j*10:=Nat.pow_succ ..
theorem zqr (a:Int) (w:World) (ha:I64 a):
  Calls Tryz.prog 79 #[.int .i64 a] w fun e w'=>e= .returned (.int .u64 a.natAbs)/\w=w':=by
 obtain⟨a1,a2⟩:=ha;go_in;go_wp2
 ·go_ret
  exact⟨zcQ (by
    have:a<0:=by assumption
    rw [IntKind.wrap_u64,IntKind.wrap_u64];omega),rfl⟩
 ·go_ret
  exact⟨zcQ (by
    have:0<=a:=by assumption
    omega),rfl⟩
theorem zlY (B:Nat) (l:Int) (k:Nat) (hl:l=k) (hk:k<20) (w:World):
  (Instr.sliceAt 145 (.pointer (some ⟨B,0,none⟩)) (some (.int .i64 l)) none none).run Tryz.prog w= .ok (.slice (some ⟨B,k,none⟩) (20-k) (20-k)) w:=by
 subst hl;have e:Tryz.prog.arrayLen 145=20:=by kernel_rfl
 have ee:Tryz.prog.elem 145=5:=by kernel_rfl
 rw [run_sliceAt_array_l w 145 ⟨B,0,none⟩ (by rw [e,ee];exact Tryz.underlying145) .i64 k (by omega) (by rw [e];omega),e,ee];simp [go_sem,slicedAt,Addr.add];rw [if_neg (by omega)];split<;>simp_all
theorem zpy (B k L:Nat) (hL:L=20-k) (l cs:List UInt8) (w:World) (hh:w.heap[B]?=some (.cells (byteCells cs) 145 (0,0))) (hl:cs.length=20) (e:l=cs.drop k):
  (convert 65 9 (.slice (some ⟨B,k,none⟩) L L)).run Tryz.prog w= .ok (.string ⟨l.toArray⟩) w:=by
 subst e hL
 have:=run_convert_bytes_back (P:=Tryz.prog) w 65 9 5 ⟨B,k,none⟩ (20-k) (cs.drop k) Tryz.underlying65 Tryz.underlying5 Tryz.underlying9 (fun j hj=>by
  have hp:(⟨B,k,none⟩:Addr).add j=⟨B,k+j,none⟩:=by unfold Addr.add;split<;>simp_all
  rw [hp,zzq2 _ _ _ _ _ _ hh,zey (by simp at hj;omega)];simp)
 rw [List.length_drop,hl]at this;exact this
theorem zlh (n:Int) (w:World) (hn:I64 n):
  Calls Tryz.prog 38 #[.int .i64 n] w fun e w'=>e= .returned (.string ⟨(txt n).toArray⟩)/\Below w.heap.size w w':=by
 go_in;go_wp2_with (go_at_call 79;refine(zqr _ _ hn).mono ?_;rintro e w1 ⟨rfl,rfl⟩);go_loopw [4,5] (fun v l wr=> ∃(k m:Nat) (cs:List UInt8),v= .int .i64 k/\l= .int .u64 m/\2<=k/\k<=20/\m<10^(k-1)/\m<=9223372036854775808/\cs.length=20/\wr.heap[w.heap.size]?=some (.cells (byteCells cs) 145 (0,0))/\Below w.heap.size w wr/\Hid (dig n.natAbs=dig m++cs.drop k)) (fun v _ _=>(intOf v).toNat)
 case atStart=>exact⟨20,n.natAbs,List.replicate 20 0,rfl,rfl,by omega,by omega,by have:=hn.1;have:=hn.2;omega,by have:=hn.1;have:=hn.2;omega,rfl,zzF _ _,zzE _ _,by simp [Hid]⟩
 case round=>
  obtain⟨k,m,cs,rfl,rfl,hk1,hk2,hm,hm2,hl,hh,hB,HD⟩:=hrel;obtain⟨j,rfl⟩: ∃j,k=j+2:=⟨k-2,by omega⟩;rename World=>wr
  have HM:=zzH hm;clear hm;have HL:=zzH hl;clear hl;have hcell:wr.cell? ⟨w.heap.size,j+1,none⟩=some (.int .u8 (cs[j+1]'(by rw [HL.out];omega)).toNat):=by rw [zzq2 _ _ _ _ _ _ hh];exact zey _
  have hcell0:wr.cell? ⟨w.heap.size,j,none⟩=some (.int .u8 (cs[j]'(by rw [HL.out];omega)).toNat):=by rw [zzq2 _ _ _ _ _ _ hh];exact zey _
  have hfz0:wr.frozen? ⟨w.heap.size,j,none⟩=false:=zzq17 _ _ _ _ _ hh;have hfz:wr.frozen? ⟨w.heap.size,j+1,none⟩=false:=zzq17 _ _ _ _ _ hh
  have hh1:(wr.setCell ⟨w.heap.size,j+1,none⟩ (.int .u8 (48+(m:Int)%10))).heap[w.heap.size]?=some (.cells (byteCells (cs.set (j+1) (dgt m))) 145 (0,0)):=by
   rw [zzq20 _ _ _ _ _ _ hh,<-zg7,zg1]
  have hd1:(cs.set (j+1) (dgt m)).drop (j+1)=dgt m::cs.drop (j+2):=zkS _ _ _ (by rw [HL.out];omega);have hl1:(cs.set (j+1) (dgt m)).length=20:=by rw [List.length_set];exact HL.out
  have hB1:Below w.heap.size w (wr.setCell ⟨w.heap.size,j+1,none⟩ (.int .u8 (48+(m:Int)%10))):=hB.setCell (zzL _) _;refine zzK4 hh hh1 hd1 hl1 fun HH HH1 HD1 HL1=>?_;clear hh hh1 hd1 hl1;by_cases small:m<10
  ·have hdm:=zd5 small
   have HDM:=zzH hdm;clear hdm;have HT:Hid (dig n.natAbs=dgt m::cs.drop (j+2)):=by have:=HD.out;rw [HDM.out]at this;exact this
   by_cases neg:n<0
   ·have hh2:((wr.setCell ⟨w.heap.size,j+1,none⟩ (.int .u8 (48+(m:Int)%10))).setCell ⟨w.heap.size,j,none⟩ (.int .u8 45)).heap[w.heap.size]?=some (.cells (byteCells ((cs.set (j+1) (dgt m)).set j 45)) 145 (0,0)):=by
     exact(zzS _ _ _ _ _ _ HH1.out).trans (congrArg (fun x=>some (Obj.cells x 145 (0,0))) (zg1 _ j 45))
    have hcv:=zpy w.heap.size j (20-j) rfl (txt n) _ _ hh2 (by rw [List.length_set];exact HL1.out) (by rw [zkS _ _ _ (by rw [HL1.out];omega),HD1.out,txt,if_pos neg,HT.out]);have hsl:=zlY w.heap.size ((j:Int)+2-1-1) j (by omega) (by omega);clear hh2;go_wp2;go_ret;exact⟨rfl,hB1.setCell (zzL _) _⟩
   ·have hcv:=zpy w.heap.size (j+1) (19-j) (by omega) (txt n) _ _ HH1.out HL1.out (by rw [HD1.out,txt,if_neg neg,HT.out])
    have hsl:=zlY w.heap.size ((j:Int)+2-1) (j+1) (by omega) (by omega);go_wp2;go_ret;exact⟨rfl,hB1⟩
  ·have hdm:=zfM small
   have HDM:=zzH hdm;clear hdm;go_wp2;go_roundw
   case rel=>
    have hj:1<=j:=by
     rcases Nat.eq_zero_or_pos j with h|h
     ·have:=HM.out;subst h;omega
     ·exact h
    refine⟨j+1,m/10,cs.set (j+1) (dgt m),by go_num,by go_num,by omega,by omega,?_,by omega,HL1.out,HH1.out,hB1,?_⟩
    ·have:=HM.out
     obtain⟨i,rfl⟩: ∃i,j=i+1:=⟨j-1,by omega⟩;rw [show i+1+2-1=i+1+1 by omega,zuz]at this;rw [show i+1+1-1=i+1 by omega];omega
    ·exact zzH (by rw [HD.out,HDM.out,HD1.out,zzq4];rfl)
   case measure=>simp [intOf];omega
theorem zjP (B k L c:Nat) (l cs:List UInt8) (t:TypeId) (fr:Nat × Nat) (w:World) (hh:w.heap[B]?=some (.cells (byteCells cs) t fr)) (e:l=(cs.drop k).take L) (hL:k+L<=cs.length):
  (convert 65 9 (.slice (some ⟨B,k,none⟩) L c)).run Tryz.prog w= .ok (.string ⟨l.toArray⟩) w:=by
 subst e
 have:=run_convert_bytes_back (P:=Tryz.prog) w 65 9 5 ⟨B,k,none⟩ c ((cs.drop k).take L) Tryz.underlying65 Tryz.underlying5 Tryz.underlying9 (fun j hj=>by
  have hp:(⟨B,k,none⟩:Addr).add j=⟨B,k+j,none⟩:=by unfold Addr.add;split<;>simp_all
  rw [hp,zzq2 _ _ _ _ _ _ hh,zey (by simp at hj;omega)];simp)
 rw [List.length_take,List.length_drop,Nat.min_eq_left (by omega)]at this;exact this
theorem zuG {l m:List UInt8} (h:l=m):Ending.returned (.string ⟨l.toArray⟩)= .returned (.string ⟨m.toArray⟩):=by rw [h]
theorem znT (n:Int) (w:World) (hn:I64 n):
  Calls Tryz.prog 50 #[.int .i64 n] w fun e w'=>e= .returned (.string ⟨(txt n).toArray⟩)/\Below w.heap.size w w':=by
 by_cases neg:n<0
 ·obtain⟨N,rfl⟩: ∃N:Nat,n= -(N:Int):=⟨n.natAbs,by omega⟩
  have ht:txt (-(N:Int))=45::dig N:=by unfold txt;rw [if_pos neg,Int.natAbs_neg,Int.natAbs_natCast]
  have hN:=hn.1;rw [ht];clear ht;go_in;go_wp2;go_loopw [0,4] (fun v o wr=> ∃(m:Nat) (suf:List UInt8),v= .int .i64 (-(m:Int))/\o= .string ⟨suf.toArray⟩/\m<=9223372036854775808/\Below w.heap.size w wr/\Hid (dig N=dig m++suf)) (fun v _ _=>(intOf v).natAbs)
  case atStart=>exact⟨N,[],rfl,rfl,by omega,zzR _ _,by simp [Hid]⟩
  case round=>
   obtain⟨m,suf,rfl,rfl,hm,hB,HD⟩:=hrel;rename World=>wr
   have hcv:=zjP wr.heap.size 0 1 1 [dgt m] [dgt m] 5 (0,0) (wr.alloc (.cells (byteCells [dgt m]) 5)) (zzF _ _) rfl (zzL _);simp only [byteCells,List.map_cons,List.map_nil,zg7]at hcv;have hm10:0<=(m:Int)%10:=by omega
   have hsl:suf.length<=20:=by have h1:=zfA (m:=N) (by omega);have h2:=congrArg List.length HD.out;rw [zzq1]at h2;omega
   have ha1:=fun wx=>run_string_add_lists (P:=Tryz.prog) wx [dgt m] suf (by simp) (by omega)
   have ha2:=fun wx=>run_string_add_lists (P:=Tryz.prog) wx [45] (dgt m::suf) (by simp) (by simp;omega)
   have HSL:=zzH hsl;clear hsl;have HDS:=zzH (@zd5 m);have HDB:=zzH (@zfM m);by_cases z:0<(m:Int)%10
   ·exact zz1
   ·have e:(48:Int)+ -((m:Int)%10)=48+(m:Int)%10:=by omega
    have hcv2:=hcv;rw [<-e]at hcv2;have z':(m:Int)%10<=0:=by omega
    clear e z hcv;exact zz1
 ·obtain⟨N,rfl⟩: ∃N:Nat,n=(N:Int):=⟨n.natAbs,by omega⟩
  have ht:txt (N:Int)=dig N:=by unfold txt;rw [if_neg neg,Int.natAbs_natCast]
  have hN:=hn.2;rw [ht];clear ht;go_in;go_wp2;go_loopw [0,4] (fun v o wr=> ∃(m:Nat) (suf:List UInt8),v= .int .i64 (m:Int)/\o= .string ⟨suf.toArray⟩/\m<=9223372036854775807/\Below w.heap.size w wr/\Hid (dig N=dig m++suf)) (fun v _ _=>(intOf v).natAbs)
  case atStart=>exact⟨N,[],rfl,rfl,by omega,zzR _ _,by simp [Hid]⟩
  case round=>
   obtain⟨m,suf,rfl,rfl,hm,hB,HD⟩:=hrel;rename World=>wr
   have hcv:=zjP wr.heap.size 0 1 1 [dgt m] [dgt m] 5 (0,0) (wr.alloc (.cells (byteCells [dgt m]) 5)) (zzF _ _) rfl (zzL _);simp only [byteCells,List.map_cons,List.map_nil,zg7]at hcv;have hsl:suf.length<=20:=by have h1:=zfA (m:=N) (by omega);have h2:=congrArg List.length HD.out;rw [zzq1]at h2;omega
   have ha1:=fun wx=>run_string_add_lists (P:=Tryz.prog) wx [dgt m] suf (by simp) (by omega)
   have ha2:=fun wx=>run_string_add_lists (P:=Tryz.prog) wx [] (dgt m::suf) (by simp) (by simp;omega)
   have HSL:=zzH hsl;clear hsl;have HDS:=zzH (@zd5 m);have HDB:=zzH (@zfM m);exact zz1
open Go.Shelf
def Tryz.lays169_ren:Go.Shelf.Ren:=⟨fun|169=>27|n=>n,fun|70=>64|9=>9|0=>0|72=>67|37=>65|127=>125|3=>3|5=>5|n=>n,fun|n=>n⟩
theorem Tryz.lays169:Go.Proofs.Lays.n169 Tryz.prog Tryz.lays169_ren:={
 mixed:=by kernel_rfl
 f169:=Tryz.func27.trans (congrArg some (by kernel_rfl))
 t0:=Tryz.underlying0
 a0:=Tryz.isAgg0
 z0:=Tryz.sizeOf0
 v0:=Tryz.zeroValue0
 t3:=Tryz.underlying3
 a3:=Tryz.isAgg3
 z3:=Tryz.sizeOf3
 v3:=Tryz.zeroValue3
 t9:=Tryz.underlying9
 a9:=Tryz.isAgg9
 z9:=Tryz.sizeOf9
 v9:=Tryz.zeroValue9
 t37:=Tryz.underlying65
 a37:=Tryz.isAgg65
 z37:=Tryz.sizeOf65
 v37:=Tryz.zeroValue65
 t70:=Tryz.underlying64
 a70:=Tryz.isAgg64
 z70:=Tryz.sizeOf64
 v70:=Tryz.zeroValue64
 t72:=Tryz.underlying67
 a72:=Tryz.isAgg67
 z72:=Tryz.sizeOf67
 v72:=Tryz.zeroValue67
 t127:=Tryz.underlying125
 a127:=Tryz.isAgg125
 z127:=Tryz.sizeOf125
 v127:=Tryz.zeroValue125}
theorem Tryz.Builder_Extra_169:Builder.Extra Tryz.prog Tryz.lays169_ren:={
 sizeBuilder:=by kernel_rfl
 liesBuilder:=by kernel_rfl
 t5:=Tryz.underlying5
 a5:=Tryz.isAgg5
 z5:=Tryz.sizeOf5
 v5:=Tryz.zeroValue5
 infoByte:=by kernel_rfl
 cellsByte:=by kernel_rfl
 sizeByte:=by kernel_rfl
 neB5:=by decide}
def Tryz.lays160_ren:Go.Shelf.Ren:=⟨fun|160=>67|232=>103|231=>102|227=>104|234=>106|233=>105|236=>108|235=>107|228=>137|271=>140|151=>139|197=>138|120=>156|152=>155|260=>154|137=>182|119=>183|224=>184|225=>185|217=>212|266=>222|n=>n,fun|9=>9|4=>4|3=>3|5=>5|117=>172|116=>171|0=>0|124=>175|21=>21|105=>202|46=>84|119=>236|139=>239|138=>238|n=>n,fun|3=>1|4=>2|n=>n⟩
theorem Tryz.lays160:Go.Proofs.Lays.n160 Tryz.prog Tryz.lays160_ren:={
 mixed:=by kernel_rfl
 f119:=Tryz.func183.trans (congrArg some (by kernel_rfl))
 f120:=Tryz.func156.trans (congrArg some (by kernel_rfl))
 f137:=Tryz.func182.trans (congrArg some (by kernel_rfl))
 f151:=Tryz.func139.trans (congrArg some (by kernel_rfl))
 f152:=Tryz.func155.trans (congrArg some (by kernel_rfl))
 f160:=Tryz.func67.trans (congrArg some (by kernel_rfl))
 f197:=Tryz.func138.trans (congrArg some (by kernel_rfl))
 f217:=Tryz.func212.trans (congrArg some (by kernel_rfl))
 f224:=Tryz.func184.trans (congrArg some (by kernel_rfl))
 f225:=Tryz.func185.trans (congrArg some (by kernel_rfl))
 f227:=Tryz.func104.trans (congrArg some (by kernel_rfl))
 f228:=Tryz.func137.trans (congrArg some (by kernel_rfl))
 f231:=Tryz.func102.trans (congrArg some (by kernel_rfl))
 f232:=Tryz.func103.trans (congrArg some (by kernel_rfl))
 f233:=Tryz.func105.trans (congrArg some (by kernel_rfl))
 f234:=Tryz.func106.trans (congrArg some (by kernel_rfl))
 f235:=Tryz.func107.trans (congrArg some (by kernel_rfl))
 f236:=Tryz.func108.trans (congrArg some (by kernel_rfl))
 f260:=Tryz.func154.trans (congrArg some (by kernel_rfl))
 f266:=Tryz.func222.trans (congrArg some (by kernel_rfl))
 f271:=Tryz.func140.trans (congrArg some (by kernel_rfl))
 t0:=Tryz.underlying0
 a0:=Tryz.isAgg0
 z0:=Tryz.sizeOf0
 v0:=Tryz.zeroValue0
 t3:=Tryz.underlying3
 a3:=Tryz.isAgg3
 z3:=Tryz.sizeOf3
 v3:=Tryz.zeroValue3
 t4:=Tryz.underlying4
 a4:=Tryz.isAgg4
 z4:=Tryz.sizeOf4
 v4:=Tryz.zeroValue4
 t5:=Tryz.underlying5
 a5:=Tryz.isAgg5
 z5:=Tryz.sizeOf5
 v5:=Tryz.zeroValue5
 t9:=Tryz.underlying9
 a9:=Tryz.isAgg9
 z9:=Tryz.sizeOf9
 v9:=Tryz.zeroValue9
 t21:=Tryz.underlying21
 a21:=Tryz.isAgg21
 z21:=Tryz.sizeOf21
 v21:=Tryz.zeroValue21
 t46:=Tryz.underlying84
 a46:=Tryz.isAgg84
 z46:=Tryz.sizeOf84
 v46:=Tryz.zeroValue84
 t105:=Tryz.underlying202
 a105:=Tryz.isAgg202
 z105:=Tryz.sizeOf202
 v105:=Tryz.zeroValue202
 t116:=Tryz.underlying171
 a116:=Tryz.isAgg171
 z116:=Tryz.sizeOf171
 t117:=Tryz.underlying172
 a117:=Tryz.isAgg172
 z117:=Tryz.sizeOf172
 v117:=Tryz.zeroValue172
 t119:=Tryz.underlying236
 a119:=Tryz.isAgg236
 z119:=Tryz.sizeOf236
 t124:=Tryz.underlying175
 a124:=Tryz.isAgg175
 z124:=Tryz.sizeOf175
 v124:=Tryz.zeroValue175
 t138:=Tryz.underlying238
 a138:=Tryz.isAgg238
 z138:=Tryz.sizeOf238
 v138:=Tryz.zeroValue238
 t139:=Tryz.underlying239
 a139:=Tryz.isAgg239
 z139:=Tryz.sizeOf239
 v139:=Tryz.zeroValue239
 g3:=by kernel_rfl
 g4:=by kernel_rfl}
open Go.RowKit in
theorem Tryz.strings_Trim_one (s:ByteArray) (c:UInt8) (hc:c.toNat<128) (w:World) (hs:s.size<=9223372036854775807):
  Calls Tryz.prog 67 #[.string s,.string ⟨#[c]⟩] w fun e w'=>e= .returned (.string ⟨(Lib.trimB s.data.toList c).toArray⟩)/\(w'=w\/w'=w.drew):=Any.strings_Trim_one Tryz.lays160 s c hc w hs
def Tryz.lays106_ren:Go.Shelf.Ren:=⟨fun|106=>194|213=>218|265=>227|n=>n,fun|9=>9|3=>3|n=>n,fun|n=>n⟩
theorem Tryz.lays106:Go.Proofs.Lays.n106 Tryz.prog Tryz.lays106_ren:={
 mixed:=by kernel_rfl
 f106:=Tryz.func194.trans (congrArg some (by kernel_rfl))
 f213:=Tryz.func218.trans (congrArg some (by kernel_rfl))
 f265:=Tryz.func227.trans (congrArg some (by kernel_rfl))
 t3:=Tryz.underlying3
 a3:=Tryz.isAgg3
 z3:=Tryz.sizeOf3
 v3:=Tryz.zeroValue3
 t9:=Tryz.underlying9
 a9:=Tryz.isAgg9
 z9:=Tryz.sizeOf9
 v9:=Tryz.zeroValue9}
open Go.RowKit in
theorem Tryz.strings_Compare (a b:ByteArray) (w:World):
  Calls Tryz.prog 194 #[.string a,.string b] w fun e w'=>e= .returned (.int .i64 (Lib.compareBytes a.data.toList b.data.toList))/\w'=w:=Any.strings_Compare Tryz.lays106 a b w
def Tryz.lays122_ren:Go.Shelf.Ren:=⟨fun|122=>189|215=>215|n=>n,fun|3=>3|4=>4|n=>n,fun|n=>n⟩
theorem Tryz.lays122:Go.Proofs.Lays.n122 Tryz.prog Tryz.lays122_ren:={
 mixed:=by kernel_rfl
 f122:=Tryz.func189.trans (congrArg some (by kernel_rfl))
 f215:=Tryz.func215.trans (congrArg some (by kernel_rfl))
 t3:=Tryz.underlying3
 a3:=Tryz.isAgg3
 z3:=Tryz.sizeOf3
 v3:=Tryz.zeroValue3
 t4:=Tryz.underlying4
 a4:=Tryz.isAgg4
 z4:=Tryz.sizeOf4
 v4:=Tryz.zeroValue4}
open Go.RowKit in
theorem Tryz.cmp_Compare_int (x y:Int) (w:World):
  Calls Tryz.prog 189 #[.int .i64 x,.int .i64 y] w fun e w'=>e= .returned (.int .i64 (Lib.compareInt x y))/\w'=w:=Any.cmp_Compare_int Tryz.lays122 x y w
open Go.RowKit in
theorem Tryz.Builder_String_any_f (B b:Nat) (l:List UInt8) (w:World) (h:Lib.IsBuilderF 67 5 B b (Lib.byteCells l) w) (hBw:B<=w.heap.size):
  Calls Tryz.prog 27 #[.pointer (some ⟨b,0,none⟩)] w fun e w'=>e= .returned (.string ⟨l.toArray⟩)/\(Lib.IsBuilderF 67 5 B b (Lib.byteCells l) w'/\Below B w w'):=Any.Builder_String_any_f Tryz.lays169 Tryz.Builder_Extra_169 B b l w h hBw
def Tryz.lays144_ren:Go.Shelf.Ren:=⟨fun|144=>141|143=>157|219=>186|217=>212|225=>185|224=>184|267=>213|266=>222|314=>223|n=>n,fun|9=>9|4=>4|3=>3|5=>5|46=>84|146=>258|51=>50|n=>n,fun|1=>4|n=>n⟩
theorem Tryz.lays144:Go.Proofs.Lays.n144 Tryz.prog Tryz.lays144_ren:={
 mixed:=by kernel_rfl
 f143:=Tryz.func157.trans (congrArg some (by kernel_rfl))
 f144:=Tryz.func141.trans (congrArg some (by kernel_rfl))
 f217:=Tryz.func212.trans (congrArg some (by kernel_rfl))
 f219:=Tryz.func186.trans (congrArg some (by kernel_rfl))
 f224:=Tryz.func184.trans (congrArg some (by kernel_rfl))
 f225:=Tryz.func185.trans (congrArg some (by kernel_rfl))
 f266:=Tryz.func222.trans (congrArg some (by kernel_rfl))
 f267:=Tryz.func213.trans (congrArg some (by kernel_rfl))
 f314:=Tryz.func223.trans (congrArg some (by kernel_rfl))
 t3:=Tryz.underlying3
 a3:=Tryz.isAgg3
 z3:=Tryz.sizeOf3
 v3:=Tryz.zeroValue3
 t4:=Tryz.underlying4
 a4:=Tryz.isAgg4
 z4:=Tryz.sizeOf4
 v4:=Tryz.zeroValue4
 t5:=Tryz.underlying5
 a5:=Tryz.isAgg5
 z5:=Tryz.sizeOf5
 v5:=Tryz.zeroValue5
 t9:=Tryz.underlying9
 a9:=Tryz.isAgg9
 z9:=Tryz.sizeOf9
 v9:=Tryz.zeroValue9
 t46:=Tryz.underlying84
 a46:=Tryz.isAgg84
 z46:=Tryz.sizeOf84
 v46:=Tryz.zeroValue84
 t51:=Tryz.underlying50
 a51:=Tryz.isAgg50
 z51:=Tryz.sizeOf50
 v51:=Tryz.zeroValue50
 t146:=Tryz.underlying258
 a146:=Tryz.isAgg258
 z146:=Tryz.sizeOf258
 v146:=Tryz.zeroValue258
 g1:=by kernel_rfl}
open Go.RowKit Go.Lib in
theorem Tryz.strings_Contains_one (s:ByteArray) (c:UInt8) (w:World):
  Calls Tryz.prog 141 #[.string s,.string ⟨#[c]⟩] w fun e w'=>e= .returned (.bool (decide (0<=Lib.indexByte s.data.toList c)))/\w'=w:=Any.strings_Contains_one Tryz.lays144 s c w
def Tryz.laysGw17_ren:Go.Shelf.Ren:=⟨fun|17=>99|15=>136|20=>153|n=>n,fun|9=>9|23=>166|4=>4|3=>3|0=>0|21=>21|n=>n,fun|n=>n⟩
theorem Tryz.laysGw17:Go.Proofs.LaysGw.n17 Tryz.prog Tryz.laysGw17_ren:={
 mixed:=by kernel_rfl
 f15:=Tryz.func136.trans (congrArg some (by kernel_rfl))
 f17:=Tryz.func99.trans (congrArg some (by kernel_rfl))
 f20:=Tryz.func153.trans (congrArg some (by kernel_rfl))
 t0:=Tryz.underlying0
 a0:=Tryz.isAgg0
 z0:=Tryz.sizeOf0
 v0:=Tryz.zeroValue0
 i0:=by kernel_rfl
 t3:=Tryz.underlying3
 a3:=Tryz.isAgg3
 z3:=Tryz.sizeOf3
 v3:=Tryz.zeroValue3
 i3:=by kernel_rfl
 t4:=Tryz.underlying4
 a4:=Tryz.isAgg4
 z4:=Tryz.sizeOf4
 v4:=Tryz.zeroValue4
 i4:=by kernel_rfl
 t9:=Tryz.underlying9
 a9:=Tryz.isAgg9
 z9:=Tryz.sizeOf9
 v9:=Tryz.zeroValue9
 i9:=by kernel_rfl
 t21:=Tryz.underlying21
 a21:=Tryz.isAgg21
 z21:=Tryz.sizeOf21
 v21:=Tryz.zeroValue21
 i21:=by kernel_rfl
 t23:=Tryz.underlying166
 a23:=Tryz.isAgg166
 z23:=Tryz.sizeOf166
 v23:=Tryz.zeroValue166
 i23:=by kernel_rfl}
open Go.RowKit Go.Lib in
theorem Tryz.strings_ContainsFunc (g:Nat) (lb:Array Value) (eg: ∀args w,(callFunc g args).run Tryz.prog w= .ok (.enter g args) w) (p:Nat->Bool) (s:ByteArray) (w:World) (hp:PredAt Tryz.prog g lb encR p w):
  Calls Tryz.prog 99 #[.string s,.func (.func g) #[] lb] w fun e w'=>e= .returned (.bool (decide (0<=Lib.idxFunc p true s)))/\Below w.heap.size w w':=Any.strings_ContainsFunc Tryz.laysGw17 g lb eg p s w hp
def Tryz.lays157_ren:Go.Shelf.Ren:=⟨fun|157=>159|229=>187|199=>188|261=>214|311=>224|312=>225|n=>n,fun|9=>9|31=>218|3=>3|5=>5|4=>4|119=>236|0=>0|40=>166|152=>248|21=>21|154=>250|51=>50|141=>252|196=>263|193=>260|198=>266|49=>264|194=>261|201=>269|226=>271|46=>84|227=>272|n=>n,fun|0=>3|6=>5|n=>n⟩
theorem Tryz.lays157:Go.Proofs.Lays.n157 Tryz.prog Tryz.lays157_ren:={
 mixed:=by kernel_rfl
 f157:=Tryz.func159.trans (congrArg some (by kernel_rfl))
 f199:=Tryz.func188.trans (congrArg some (by kernel_rfl))
 f229:=Tryz.func187.trans (congrArg some (by kernel_rfl))
 f261:=Tryz.func214.trans (congrArg some (by kernel_rfl))
 f311:=Tryz.func224.trans (congrArg some (by kernel_rfl))
 f312:=Tryz.func225.trans (congrArg some (by kernel_rfl))
 t0:=Tryz.underlying0
 a0:=Tryz.isAgg0
 z0:=Tryz.sizeOf0
 v0:=Tryz.zeroValue0
 t3:=Tryz.underlying3
 a3:=Tryz.isAgg3
 z3:=Tryz.sizeOf3
 v3:=Tryz.zeroValue3
 t4:=Tryz.underlying4
 a4:=Tryz.isAgg4
 z4:=Tryz.sizeOf4
 v4:=Tryz.zeroValue4
 t5:=Tryz.underlying5
 a5:=Tryz.isAgg5
 z5:=Tryz.sizeOf5
 v5:=Tryz.zeroValue5
 t9:=Tryz.underlying9
 a9:=Tryz.isAgg9
 z9:=Tryz.sizeOf9
 v9:=Tryz.zeroValue9
 t21:=Tryz.underlying21
 a21:=Tryz.isAgg21
 z21:=Tryz.sizeOf21
 v21:=Tryz.zeroValue21
 t31:=Tryz.underlying218
 a31:=Tryz.isAgg218
 z31:=Tryz.sizeOf218
 v31:=Tryz.zeroValue218
 t40:=Tryz.underlying166
 a40:=Tryz.isAgg166
 z40:=Tryz.sizeOf166
 v40:=Tryz.zeroValue166
 t46:=Tryz.underlying84
 a46:=Tryz.isAgg84
 z46:=Tryz.sizeOf84
 v46:=Tryz.zeroValue84
 t49:=Tryz.underlying264
 a49:=Tryz.isAgg264
 z49:=Tryz.sizeOf264
 v49:=Tryz.zeroValue264
 t51:=Tryz.underlying50
 a51:=Tryz.isAgg50
 z51:=Tryz.sizeOf50
 v51:=Tryz.zeroValue50
 t119:=Tryz.underlying236
 a119:=Tryz.isAgg236
 z119:=Tryz.sizeOf236
 t141:=Tryz.underlying252
 a141:=Tryz.isAgg252
 z141:=Tryz.sizeOf252
 v141:=Tryz.zeroValue252
 t152:=Tryz.underlying248
 a152:=Tryz.isAgg248
 z152:=Tryz.sizeOf248
 v152:=Tryz.zeroValue248
 t154:=Tryz.underlying250
 a154:=Tryz.isAgg250
 z154:=Tryz.sizeOf250
 v154:=Tryz.zeroValue250
 t193:=Tryz.underlying260
 a193:=Tryz.isAgg260
 z193:=Tryz.sizeOf260
 v193:=Tryz.zeroValue260
 t194:=Tryz.underlying261
 a194:=Tryz.isAgg261
 z194:=Tryz.sizeOf261
 v194:=Tryz.zeroValue261
 t196:=Tryz.underlying263
 a196:=Tryz.isAgg263
 z196:=Tryz.sizeOf263
 v196:=Tryz.zeroValue263
 t198:=Tryz.underlying266
 a198:=Tryz.isAgg266
 z198:=Tryz.sizeOf266
 v198:=Tryz.zeroValue266
 t201:=Tryz.underlying269
 a201:=Tryz.isAgg269
 z201:=Tryz.sizeOf269
 v201:=Tryz.zeroValue269
 t226:=Tryz.underlying271
 a226:=Tryz.isAgg271
 z226:=Tryz.sizeOf271
 v226:=Tryz.zeroValue271
 t227:=Tryz.underlying272
 a227:=Tryz.isAgg272
 z227:=Tryz.sizeOf272
 v227:=Tryz.zeroValue272
 g0:=by kernel_rfl
 g6:=by kernel_rfl}
open Go.RowKit Go.Lib in
theorem Tryz.strings_Fields (s:ByteArray) (w:World) (hs:s.size<4294967281) (hascii: ∀(j:Nat) b,s.data.toList[j]?=some b->b.toNat<128) (htab:Lib.TabIs Tryz.prog w "strings.asciiSpace" .u8 Lib.asciiSpaceTab):
  Calls Tryz.prog 159 #[.string s] w fun e w'=>
   e= .returned (.slice (some ⟨w.heap.size,0,none⟩) (Lib.fields s.data.toList).length (Lib.fields s.data.toList).length)/\w'=w.alloc (.cells ((Lib.fields s.data.toList).map fun l=>Value.string ⟨l.toArray⟩).toArray 9):=Any.strings_Fields Tryz.lays157 (by kernel_rfl) (by kernel_rfl) s w hs hascii htab
def Tryz.l36_ren:Go.Shelf.Ren:=⟨fun|6=>65|n=>n,fun|22=>47|23=>46|25=>122|3=>3|0=>0|4=>4|n=>n,fun|n=>n⟩
theorem Tryz.l36:Go.Proofs.SlLaysH0.n6 Tryz.prog Tryz.l36_ren:={
 mixed:=by kernel_rfl
 f6:=⟨Tryz.f65.name,by decide,Tryz.func65.trans (congrArg some (by kernel_rfl))⟩
 t0:=Tryz.underlying0
 a0:=Tryz.isAgg0
 z0:=Tryz.sizeOf0
 v0:=Tryz.zeroValue0
 t3:=Tryz.underlying3
 a3:=Tryz.isAgg3
 z3:=Tryz.sizeOf3
 v3:=Tryz.zeroValue3
 t4:=Tryz.underlying4
 a4:=Tryz.isAgg4
 z4:=Tryz.sizeOf4
 v4:=Tryz.zeroValue4
 t22:=Tryz.underlying47
 a22:=Tryz.isAgg47
 z22:=Tryz.sizeOf47
 v22:=Tryz.zeroValue47
 t25:=Tryz.underlying122
 a25:=Tryz.isAgg122
 z25:=Tryz.sizeOf122
 v25:=Tryz.zeroValue122}
theorem zhi (s:ByteArray) (n:Int) (w:World):Calls Tryz.prog 113 #[.string s,.int .i64 n] w fun e w'=>e= .returned (.bool (zN s n))/\w=w':=by
 cases t0:(s.toList== [45])with
 |true=>
  have E:Hid (zN s n=(n==1||n==2)):=zzH (by unfold zN;rw [t0];rfl)
  cases q1:(n==1)with
  |true=>
   rw [q1]at E;exact zz58
  |false=>
   rw [q1]at E;exact zz58
 |false=>
  cases t1:(s.toList== [98,110,111,116])with
  |true=>
    have E:Hid (zN s n=(n==1)):=zzH (by unfold zN;rw [t0,t1];rfl);exact zz58
  |false=>
  cases t2:(s.toList== [110,111,116])with
  |true=>
   have E:Hid (zN s n=(n==1)):=zzH (by unfold zN;rw [t0,t1,t2];rfl);exact zz58
  |false=>
   cases t3:(s.toList== [43])with
   |true=>
     have E:Hid (zN s n=(n==2)):=zzH (by unfold zN opTwo;simp only [List.any_cons,List.any_nil,t0,t1,t2,t3,zzq9,zzq19,zzq13,zzq12,if_true];rfl);exact zz58
   |false=>
   cases t4:(s.toList== [42])with
   |true=>
    have E:Hid (zN s n=(n==2)):=zzH (by unfold zN opTwo;simp only [List.any_cons,List.any_nil,t0,t1,t2,t3,t4,zzq9,zzq19,zzq13,zzq12,if_true];rfl);exact zz58
   |false=>
    cases t5:(s.toList== [100,105,118])with
    |true=>
      have E:Hid (zN s n=(n==2)):=zzH (by unfold zN opTwo;simp only [List.any_cons,List.any_nil,t0,t1,t2,t3,t4,t5,zzq9,zzq19,zzq13,zzq12,if_true];rfl);exact zz58
    |false=>
    cases t6:(s.toList== [114,101,109])with
    |true=>
     have E:Hid (zN s n=(n==2)):=zzH (by unfold zN opTwo;simp only [List.any_cons,List.any_nil,t0,t1,t2,t3,t4,t5,t6,zzq9,zzq19,zzq13,zzq12,if_true];rfl);exact zz58
    |false=>
     cases t7:(s.toList== [98,97,110,100])with
     |true=>
       have E:Hid (zN s n=(n==2)):=zzH (by unfold zN opTwo;simp only [List.any_cons,List.any_nil,t0,t1,t2,t3,t4,t5,t6,t7,zzq9,zzq19,zzq13,zzq12,if_true];rfl);exact zz58
     |false=>
     cases t8:(s.toList== [98,111,114])with
     |true=>
      have E:Hid (zN s n=(n==2)):=zzH (by unfold zN opTwo;simp only [List.any_cons,List.any_nil,t0,t1,t2,t3,t4,t5,t6,t7,t8,zzq9,zzq19,zzq13,zzq12,if_true];rfl);exact zz58
     |false=>
      cases t9:(s.toList== [98,120,111,114])with
      |true=>
        have E:Hid (zN s n=(n==2)):=zzH (by unfold zN opTwo;simp only [List.any_cons,List.any_nil,t0,t1,t2,t3,t4,t5,t6,t7,t8,t9,zzq9,zzq19,zzq13,zzq12,if_true];rfl);exact zz58
      |false=>
      cases t10:(s.toList== [98,115,108])with
      |true=>
       have E:Hid (zN s n=(n==2)):=zzH (by unfold zN opTwo;simp only [List.any_cons,List.any_nil,t0,t1,t2,t3,t4,t5,t6,t7,t8,t9,t10,zzq9,zzq19,zzq13,zzq12,if_true];rfl);exact zz58
      |false=>
       cases t11:(s.toList== [98,115,114])with
       |true=>
         have E:Hid (zN s n=(n==2)):=zzH (by unfold zN opTwo;simp only [List.any_cons,List.any_nil,t0,t1,t2,t3,t4,t5,t6,t7,t8,t9,t10,t11,zzq9,zzq19,zzq13,zzq12,if_true];rfl);exact zz58
       |false=>
       cases t12:(s.toList== [97,110,100])with
       |true=>
        have E:Hid (zN s n=(n==2)):=zzH (by unfold zN opTwo;simp only [List.any_cons,List.any_nil,t0,t1,t2,t3,t4,t5,t6,t7,t8,t9,t10,t11,t12,zzq9,zzq19,zzq13,zzq12,if_true];rfl);exact zz58
       |false=>
        cases t13:(s.toList== [111,114])with
        |true=>
          have E:Hid (zN s n=(n==2)):=zzH (by unfold zN opTwo;simp only [List.any_cons,List.any_nil,t0,t1,t2,t3,t4,t5,t6,t7,t8,t9,t10,t11,t12,t13,zzq9,zzq19,zzq13,zzq12,if_true];rfl);exact zz58
        |false=>
        cases t14:(s.toList== [120,111,114])with
        |true=>
         have E:Hid (zN s n=(n==2)):=zzH (by unfold zN opTwo;simp only [List.any_cons,List.any_nil,t0,t1,t2,t3,t4,t5,t6,t7,t8,t9,t10,t11,t12,t13,t14,zzq9,zzq19,zzq13,zzq12,if_true];rfl);exact zz58
        |false=>
         cases t15:(s.toList== [61,58,61])with
         |true=>
           have E:Hid (zN s n=(n==2)):=zzH (by unfold zN opTwo;simp only [List.any_cons,List.any_nil,t0,t1,t2,t3,t4,t5,t6,t7,t8,t9,t10,t11,t12,t13,t14,t15,zzq9,zzq19,zzq13,zzq12,if_true];rfl);exact zz58
         |false=>
         cases t16:(s.toList== [61,47,61])with
         |true=>
          have E:Hid (zN s n=(n==2)):=zzH (by unfold zN opTwo;simp only [List.any_cons,List.any_nil,t0,t1,t2,t3,t4,t5,t6,t7,t8,t9,t10,t11,t12,t13,t14,t15,t16,zzq9,zzq19,zzq13,zzq12,if_true];rfl);exact zz58
         |false=>
          cases t17:(s.toList== [60])with
          |true=>
            have E:Hid (zN s n=(n==2)):=zzH (by unfold zN opTwo;simp only [List.any_cons,List.any_nil,t0,t1,t2,t3,t4,t5,t6,t7,t8,t9,t10,t11,t12,t13,t14,t15,t16,t17,zzq9,zzq19,zzq13,zzq12,if_true];rfl);exact zz58
          |false=>
          cases t18:(s.toList== [61,60])with
          |true=>
           have E:Hid (zN s n=(n==2)):=zzH (by unfold zN opTwo;simp only [List.any_cons,List.any_nil,t0,t1,t2,t3,t4,t5,t6,t7,t8,t9,t10,t11,t12,t13,t14,t15,t16,t17,t18,zzq9,zzq19,zzq13,zzq12,if_true];rfl);exact zz58
          |false=>
           cases t19:(s.toList== [62])with
           |true=>
             have E:Hid (zN s n=(n==2)):=zzH (by unfold zN opTwo;simp only [List.any_cons,List.any_nil,t0,t1,t2,t3,t4,t5,t6,t7,t8,t9,t10,t11,t12,t13,t14,t15,t16,t17,t18,t19,zzq9,zzq19,zzq13,zzq12,if_true];rfl);exact zz58
           |false=>
           cases t20:(s.toList== [62,61])with
           |true=>
            have E:Hid (zN s n=(n==2)):=zzH (by unfold zN opTwo;simp only [List.any_cons,List.any_nil,t0,t1,t2,t3,t4,t5,t6,t7,t8,t9,t10,t11,t12,t13,t14,t15,t16,t17,t18,t19,t20,zzq9,zzq19,zzq13,zzq12,if_true];rfl);exact zz58
           |false=>
            cases t21:(s.toList== [43,43])with
            |true=>
              have E:Hid (zN s n=(n==2)):=zzH (by unfold zN opTwo;simp only [List.any_cons,List.any_nil,t0,t1,t2,t3,t4,t5,t6,t7,t8,t9,t10,t11,t12,t13,t14,t15,t16,t17,t18,t19,t20,t21,zzq9,zzq19,zzq13,zzq12,if_true];rfl);exact zz58
            |false=>
            have E:Hid (zN s n=false):=zzH (by unfold zN opTwo;simp only [List.any_cons,List.any_nil,t0,t1,t2,t3,t4,t5,t6,t7,t8,t9,t10,t11,t12,t13,t14,t15,t16,t17,t18,t19,t20,t21,zzq9];rfl);exact zz58
open Go.RowKit Go.Maps Go.WideMaps
theorem zoC:Keyed Tryz.prog 9:=string_keyed Tryz.underlying9
theorem zsR (w:World):(zeroValue 3).run Tryz.prog w= .ok (.int .i64 0) w:=by kernel_rfl
def zfs (t:List UInt8->Int) (k:List UInt8) (c:Int):List UInt8->Int:=fun x=>if x=k then c else t x
def zcu (c:Int) (ws:List (List UInt8)) (t:List UInt8->Int):List UInt8->Int:=ws.foldl (fun t k=>zfs t k c) t
def zex (w:World) (M n:Nat) (t:List UInt8->Int):Prop:= ∃D:DataW Unit,w.ownsMap Tryz.prog 9 (plainElem Tryz.prog 3) M n D/\ ∀k:List UInt8,D.atKey (.string k) (.lit (.int .i64 0))= .lit (.int .i64 (t k))
theorem zpl (k:List UInt8):WideAt.IsKeyLit (.string k):=by unfold WideAt.IsKeyLit;simp
theorem zn1 {D:DataW Unit} {t:List UInt8->Int} (hD:IsMap D) (h: ∀k:List UInt8,D.atKey (.string k) (.lit (.int .i64 0))= .lit (.int .i64 (t k))) (x:List UInt8) (c:Int):
  ∀k:List UInt8,(D.put (.string x) (.lit (.int .i64 c))).atKey (.string k) (.lit (.int .i64 0))= .lit (.int .i64 (zfs t x c k)):=by
 intro k;unfold zfs;by_cases e:k=x
 ·rw [if_pos e,e,atKey_put_same hD (zpl x)]
 ·rw [if_neg e,atKey_put_other (by intro h2;injection h2 with h2;exact e h2)];exact h k
theorem zlq (c:Int) (ws:List (List UInt8)) (t:List UInt8->Int) {k:Nat} (h:k<ws.length):zcu c (ws.take (k+1)) t=zfs (zcu c (ws.take k) t) ws[k] c:=by
 unfold zcu;rw [List.take_add_one,zzq11 h,List.foldl_append];rfl
theorem zhC (c:Int) (s:ByteArray) (ws:List (List UInt8)) (B C M n:Nat) (t:List UInt8->Int) (w:World) (hws:Lib.fields s.data.toList=ws) (hc0:0<=c) (hc1:c<=10) (hs:s.size<4294967281) (hwl: ∀x∈ws,x.length<=1000) (hwn:ws.length<=1000) (hn:n<=1000000)
  (hascii: ∀(j:Nat) b,s.data.toList[j]?=some b->b.toNat<128) (htab:Lib.TabIs Tryz.prog w "strings.asciiSpace" .u8 Lib.asciiSpaceTab)
  (hB:B<=w.heap.size) (hBC:B<=C) (hBM:B<=M) (hCM:C≠M) (hC:w.heap[C]?=some (.cells #[.map (some M)] 206 (0,0))) (hM:zex w M n t):
  Calls Tryz.prog 158 #[.int .i64 c,.string s,.pointer (some ⟨C,0,none⟩)] w fun e w'=>e= .returned (.tuple #[])/\zex w' M (n+ws.length) (zcu c ws t)/\w'.heap[C]?=some (.cells #[.map (some M)] 206 (0,0))/\Below B w w':=by
 have HF:=fun w' h=>Tryz.strings_Fields s w' hs hascii h
 rw [hws]at HF;have HTab:=zzH htab;clear htab hws;have hMl:M<w.heap.size:=by obtain⟨D,h,_⟩:=hM;exact h.lt
 have hCl:=zc hC;go_in;go_wp2_with (go_at_call 159;refine(HF _ HTab.out).mono ?_;rintro e w1 ⟨rfl,rfl⟩);have hWd:=zzF w (.cells (ws.map fun l=>Value.string ⟨l.toArray⟩).toArray 9);have hC1:=(Below.heap_alloc w (.cells (ws.map fun l=>Value.string ⟨l.toArray⟩).toArray 9) C hCl).trans hC;have hB1:Below B w (w.alloc (.cells (ws.map fun l=>Value.string ⟨l.toArray⟩).toArray 9)):=(zzR _ _).alloc hB _
 have hM1:zex (w.alloc (.cells (ws.map fun l=>Value.string ⟨l.toArray⟩).toArray 9)) M n t:=by
  obtain⟨D,h,h2⟩:=hM;exact⟨D,h.alloc _,h2⟩
 generalize hW:w.alloc (.cells (ws.map fun l=>Value.string ⟨l.toArray⟩).toArray 9)=W at *;generalize hb:w.heap.size=b at *;go_loopw [10] (fun i wr=> ∃k:Nat,k<=ws.length/\i= .int .i64 k/\zex wr M (n+k) (zcu c (ws.take k) t)/\wr.heap[C]?=some (.cells #[.map (some M)] 206 (0,0))/\wr.heap[b]?=some (.cells (ws.map fun l=>Value.string ⟨l.toArray⟩).toArray 9 (0,0))/\Below B w wr) (fun i _=>ws.length-(intOf i).toNat)
 case atStart=>exact⟨0,zzZ _,rfl,hM1,hC1,hWd,hB1⟩
 case round=>
  obtain⟨k,hk,rfl,⟨D,hown,hD⟩,hCr,hbr,hBr⟩:=hrel;rename World=>wr
  by_cases hlt:k<ws.length
  ·have hcw:wr.cell? ⟨b,k,none⟩=some (.string ⟨ws[k].toArray⟩):=by rw [zzq2 _ _ _ _ _ _ hbr];simp [hlt]
   have hcC:wr.cell? ⟨C,0,none⟩=some (.map (some M)):=by rw [zzq2 _ _ _ _ _ _ hCr];rfl
   have hkey:keyOf Tryz.prog 9 (.string ⟨ws[k].toArray⟩)=some (.string ws[k]):=by
    have:=hwl _ (zzM hlt);exact keyOf_string_mk Tryz.underlying9 (by unfold maxLen;simp [ByteArray.size];omega)
   have hDM:=hown.isMap;have HP:=zzH (zn1 hDM hD ws[k] c);have HS:=zzH (zlq c ws t hlt);have hkl:=hwl _ (zzM hlt);generalize ws[k]=x at *
   go_wp2_with (first
    |(at_mapUpdate;refine wpList_mapUpdate_own _ rfl _ _ _ 206 rfl 9 3 zoC Tryz.underlying206 _ M (n+k) _ rfl hown (by unfold maxLen;omega) _ _ _ rfl rfl hkey _ [] (plainElem_int Tryz.underlying3 (WalkArith.wf_i64 (by omega))) ?_)
    |fail)
   intro w1 hown1 hgrow1;have hM2:zex w1 M (n+(k+1)) (zcu c (ws.take (k+1)) t):=⟨_,hown1,by rw [HS.out];exact HP.out⟩;have hC2:w1.heap[C]?=some (.cells #[.map (some M)] 206 (0,0)):=(hgrow1.block C (zc hCr) (fun e=>hCM (zzf e))).trans hCr
   have hb2:w1.heap[b]?=some (.cells (ws.map fun l=>Value.string ⟨l.toArray⟩).toArray 9 (0,0)):=(hgrow1.block b (zc hbr) (fun e=>by have:=zzf e;omega)).trans hbr
   have hB2:Below B w w1:=hBr.grown hgrow1 (by have:=hBr.size;omega) (fun j hj=>by cases hj;exact hBM);clear hown1 hgrow1 hown hcw hcC;go_wp2_with fail;go_roundw
   case rel=>exact⟨k+1,by omega,by go_num,hM2,hC2,hb2,hB2⟩
   case measure=>simp [intOf];omega
  ·obtain rfl:k=ws.length:=by omega
   have hMF:zex wr M (n+ws.length) (zcu c ws t):=⟨D,hown,by rw [List.take_length]at hD;exact hD⟩;clear hown;go_wp2_with fail
   (try simp only [Exit.inBlock,Exit.then])
   go_end0;exact⟨rfl,hMF,hCr,hBr⟩
open Go.RowKit Go.Maps Go.WideMaps
def words1:List (List UInt8):=[[105,115,95,105,110,116,101,103,101,114,47,49],[105,115,95,97,116,111,109,47,49],[105,115,95,98,111,111,108,101,97,110,47,49],[105,115,95,116,117,112,108,101,47,49],[105,115,95,112,105,100,47,49],[105,115,95,114,101,102,47,49],[105,115,95,108,105,115,116,47,49],[105,115,95,98,105,116,115,47,49],[105,115,95,98,121,116,101,115,47,49],[105,115,95,102,117,110,47,49],[105,115,95,102,117,110,47,50],[101,108,101,109,101,110,116,47,50],[115,105,122,101,47,49],[104,100,47,49],[116,108,47,49],[108,101,110,103,116,104,47,49],[98,105,116,95,115,105,122,101,47,49],[98,121,116,101,95,115,105,122,101,47,49],[97,98,115,47,49],[109,105,110,47,50],[109,97,120,47,50],[115,101,108,102,47,48],[110,111,100,101,47,48],[110,111,100,101,47,49]]
def zl3:List UInt8:=[105,115,95,105,110,116,101,103,101,114,47,49,32,105,115,95,97,116,111,109,47,49,32,105,115,95,98,111,111,108,101,97,110,47,49,32,105,115,95,116,117,112,108,101,47,49,32,105,115,95,112,105,100,47,49,32,105,115,95,114,101,102,47,49,32,105,115,95,108,105,115,116,47,49,32,105,115,95,98,105,116,115,47,49,32,105,115,95,98,121,116,101,115,47,49,32,105,115,95,102,117,110,47,49,32,105,115,95,102,117,110,47,50,32,101,108,101,109,101,110,116,47,50,32,115,105,122,101,47,49,32,104,100,47,49,32,116,108,47,49,32,108,101,110,103,116,104,47,49,32,98,105,116,95,115,105,122,101,47,49,32,98,121,116,101,95,115,105,122,101,47,49,32,97,98,115,47,49,32,109,105,110,47,50,32,109,97,120,47,50,32,115,101,108,102,47,48,32,110,111,100,101,47,48,32,110,111,100,101,47,49]
def words2:List (List UInt8):=[[115,101,116,101,108,101,109,101,110,116,47,51],[116,111,95,108,105,115,116,47,49],[116,111,95,116,117,112,108,101,47,49],[116,111,95,98,121,116,101,115,47,49],[102,114,111,109,95,98,121,116,101,115,47,49],[114,101,118,101,114,115,101,47,49],[109,101,109,98,101,114,47,50],[115,111,114,116,47,49],[112,97,99,107,47,49],[117,110,112,97,99,107,47,49],[101,114,114,111,114,47,49],[101,120,105,116,47,49],[116,104,114,111,119,47,49],[114,97,105,115,101,47,50]]
def zl2:List UInt8:=[115,101,116,101,108,101,109,101,110,116,47,51,32,116,111,95,108,105,115,116,47,49,32,116,111,95,116,117,112,108,101,47,49,32,116,111,95,98,121,116,101,115,47,49,32,102,114,111,109,95,98,121,116,101,115,47,49,32,114,101,118,101,114,115,101,47,49,32,109,101,109,98,101,114,47,50,32,115,111,114,116,47,49,32,112,97,99,107,47,49,32,117,110,112,97,99,107,47,49,32,101,114,114,111,114,47,49,32,101,120,105,116,47,49,32,116,104,114,111,119,47,49,32,114,97,105,115,101,47,50]
def words3:List (List UInt8):=[[115,112,97,119,110,47,49],[115,112,97,119,110,47,51],[115,112,97,119,110,95,108,105,110,107,47,49],[115,112,97,119,110,95,108,105,110,107,47,51],[115,112,97,119,110,95,109,111,110,105,116,111,114,47,49],[115,112,97,119,110,95,109,111,110,105,116,111,114,47,51],[114,101,113,117,101,115,116,47,52],[108,105,110,107,47,49],[117,110,108,105,110,107,47,49],[109,111,110,105,116,111,114,47,49],[100,101,109,111,110,105,116,111,114,47,49],[101,120,105,116,47,50],[116,114,97,112,47,49],[112,114,105,111,114,105,116,121,47,49],[114,101,103,105,115,116,101,114,47,50],[117,110,114,101,103,105,115,116,101,114,47,49],[119,104,101,114,101,105,115,47,49],[115,101,110,100,95,97,102,116,101,114,47,51],[99,97,110,99,101,108,47,49],[109,97,107,101,95,114,101,102,47,48],[99,108,111,99,107,47,48],[115,97,121,47,49],[110,111,100,101,115,47,48],[119,97,116,99,104,47,49],[117,110,119,97,116,99,104,47,49],[116,97,98,95,110,101,119,47,49],[116,97,98,95,112,117,116,47,51],[116,97,98,95,103,101,116,47,50],[116,97,98,95,100,101,108,47,50],[116,97,98,95,110,101,120,116,47,50],[116,97,98,95,115,105,122,101,47,49],[116,97,98,95,100,114,111,112,47,49]]
def zmr:List UInt8:=[115,112,97,119,110,47,49,32,115,112,97,119,110,47,51,32,115,112,97,119,110,95,108,105,110,107,47,49,32,115,112,97,119,110,95,108,105,110,107,47,51,32,115,112,97,119,110,95,109,111,110,105,116,111,114,47,49,32,115,112,97,119,110,95,109,111,110,105,116,111,114,47,51,32,114,101,113,117,101,115,116,47,52,32,108,105,110,107,47,49,32,117,110,108,105,110,107,47,49,32,109,111,110,105,116,111,114,47,49,32,100,101,109,111,110,105,116,111,114,47,49,32,101,120,105,116,47,50,32,116,114,97,112,47,49,32,112,114,105,111,114,105,116,121,47,49,32,114,101,103,105,115,116,101,114,47,50,32,117,110,114,101,103,105,115,116,101,114,47,49,32,119,104,101,114,101,105,115,47,49,32,115,101,110,100,95,97,102,116,101,114,47,51,32,99,97,110,99,101,108,47,49,32,109,97,107,101,95,114,101,102,47,48,32,99,108,111,99,107,47,48,32,115,97,121,47,49,32,110,111,100,101,115,47,48,32,119,97,116,99,104,47,49,32,117,110,119,97,116,99,104,47,49,32,116,97,98,95,110,101,119,47,49,32,116,97,98,95,112,117,116,47,51,32,116,97,98,95,103,101,116,47,50,32,116,97,98,95,100,101,108,47,50,32,116,97,98,95,110,101,120,116,47,50,32,116,97,98,95,115,105,122,101,47,49,32,116,97,98,95,100,114,111,112,47,49]
def words4:List (List UInt8):=[[97,112,112,108,121,47,50],[97,112,112,108,121,47,51]]
def zlX:List UInt8:=[97,112,112,108,121,47,50,32,97,112,112,108,121,47,51]
def zfw:List UInt8->Int:=zcu 4 words4 (zcu 3 words3 (zcu 2 words2 (zcu 1 words1 (fun _=>0))))
theorem zgC {l:List UInt8} (h:l.all (fun b=>decide (b.toNat<128))=true): ∀(j:Nat) b,l[j]?=some b->b.toNat<128:=fun j b hb=>by
 have:=zzp.1 h b (List.mem_of_getElem? hb)
 simpa using this
theorem zhA {ws:List (List UInt8)} (h:ws.all (fun x=>decide (x.length<=1000))=true): ∀x∈ws,x.length<=1000:=fun x hx=>by
 have:=zzp.1 h x hx
 simpa using this
theorem zpP:Lib.fields zl3=words1:=by kernel_rfl
theorem zpj:Lib.fields zl2=words2:=by kernel_rfl
theorem zoa:Lib.fields zmr=words3:=by kernel_rfl
theorem znX:Lib.fields zlX=words4:=by kernel_rfl
def SpaceAt (w:World):Prop:=Lib.TabIs Tryz.prog w "strings.asciiSpace" .u8 Lib.asciiSpaceTab
theorem SpaceAt.below {w w':World} (h:SpaceAt w) (hb:Below w.heap.size w w'):SpaceAt w':=Joins.tab_stays (g:=3) (by kernel_rfl) h hb (zzL _)
theorem zlO (w:World) (hsp:SpaceAt w):Calls Tryz.prog 142 #[] w fun e w'=> ∃M,e= .returned (.map (some M))/\zex w' M 72 zfw/\Below w.heap.size w w':=by
 have hmm:= @run_makeMap Tryz.prog;have HS:=zzH hsp;go_in;go_wp2_with fail
 have hC0:((w.alloc (.map #[] 0)).alloc (.cells #[.map (some w.heap.size)] 206)).heap[w.heap.size+1]?=some (.cells #[.map (some w.heap.size)] 206 (0,0)):=by
  have h:=zzF (w.alloc (.map #[] 0)) (.cells #[.map (some w.heap.size)] 206)
  rwa [show(w.alloc (.map #[] 0)).heap.size=w.heap.size+1 by simp]at h
 have hM0:zex ((w.alloc (.map #[] 0)).alloc (.cells #[.map (some w.heap.size)] 206)) w.heap.size 0 (fun _=>0):=⟨_,(World.ownsMap_made _ _ _ _).alloc _,fun k=>rfl⟩;have hB0:Below w.heap.size w ((w.alloc (.map #[] 0)).alloc (.cells #[.map (some w.heap.size)] 206)):=(zzE _ _).alloc (by simp) _;have hS0:=zzH (hsp.below hB0);have hsz:w.heap.size<=((w.alloc (.map #[] 0)).alloc (.cells #[.map (some w.heap.size)] 206)).heap.size:=hB0.size;generalize(w.alloc (.map #[] 0)).alloc (.cells #[.map (some w.heap.size)] 206)=w0 at *;clear hmm;refine(zhC 1 _ words1 w.heap.size (w.heap.size+1) w.heap.size 0 (fun _=>0) w0 zpP (by decide) (by decide) (by decide) (zhA (by kernel_rfl)) (by decide) (by decide) (zgC (l:=zl3) (by kernel_rfl)) hS0.out hsz (by omega) (zzL _) (by omega) hC0 hM0).mono ?_;rintro e w1 ⟨rfl,hM1,hC1,hB1'⟩;have hB1:Below w.heap.size w w1:=hB0.trans hB1';have hsz1:w.heap.size<=w1.heap.size:=hB1.size;have hS1:=zzH (hsp.below hB1);change zex w1 w.heap.size 24 _ at hM1;generalize ht1:zcu 1 words1 (fun _=>0)=t1 at hM1;have HT1:=zzH ht1;clear ht1 hM0 hC0 hB1' hB0 hsz;go_wp2_with fail;refine(zhC 2 _ words2 w.heap.size (w.heap.size+1) w.heap.size 24 t1 w1 zpj (by decide) (by decide) (by decide) (zhA (by kernel_rfl)) (by decide) (by decide) (zgC (l:=zl2) (by kernel_rfl)) hS1.out hsz1 (by omega) (zzL _) (by omega) hC1 hM1).mono ?_;rintro e w2 ⟨rfl,hM2,hC2,hB2'⟩;have hB2:Below w.heap.size w w2:=hB1.trans hB2';have hsz2:w.heap.size<=w2.heap.size:=hB2.size;have hS2:=zzH (hsp.below hB2);change zex w2 w.heap.size 38 _ at hM2;generalize ht2:zcu 2 words2 t1=t2 at hM2;have HT2:=zzH ht2;clear ht2 hM1 hC1 hB2' hB1 hsz1;go_wp2_with fail;refine(zhC 3 _ words3 w.heap.size (w.heap.size+1) w.heap.size 38 t2 w2 zoa (by decide) (by decide) (by decide) (zhA (by kernel_rfl)) (by decide) (by decide) (zgC (l:=zmr) (by kernel_rfl)) hS2.out hsz2 (by omega) (zzL _) (by omega) hC2 hM2).mono ?_;rintro e w3 ⟨rfl,hM3,hC3,hB3'⟩;have hB3:Below w.heap.size w w3:=hB2.trans hB3';have hsz3:w.heap.size<=w3.heap.size:=hB3.size;have hS3:=zzH (hsp.below hB3);change zex w3 w.heap.size 70 _ at hM3;generalize ht3:zcu 3 words3 t2=t3 at hM3;have HT3:=zzH ht3;clear ht3 hM2 hC2 hB3' hB2 hsz2;go_wp2_with fail;refine(zhC 4 _ words4 w.heap.size (w.heap.size+1) w.heap.size 70 t3 w3 znX (by decide) (by decide) (by decide) (zhA (by kernel_rfl)) (by decide) (by decide) (zgC (l:=zlX) (by kernel_rfl)) hS3.out hsz3 (by omega) (zzL _) (by omega) hC3 hM3).mono ?_;rintro e w4 ⟨rfl,hM4,hC4,hB4'⟩;have hB4:Below w.heap.size w w4:=hB3.trans hB4';have hsz4:w.heap.size<=w4.heap.size:=hB4.size;have hS4:=zzH (hsp.below hB4);change zex w4 w.heap.size 72 _ at hM4;generalize ht4:zcu 4 words4 t3=t4 at hM4;have HT4:=zzH ht4;clear ht4 hM3 hC3 hB4' hB3 hsz3;have hc4:w4.cell? ⟨w.heap.size+1,0,none⟩=some (.map (some w.heap.size)):=by rw [zzq2 _ _ _ _ _ _ hC4];rfl
 go_wp2;go_ret;have e:zfw=t4:=by unfold zfw;rw [HT1.out,HT2.out,HT3.out,HT4.out]
 exact⟨_,rfl,by rw [e];exact hM4,hB4⟩
def zbu (s:ByteArray) (n:Int):Int:=if n<0\/0<=Lib.indexByte s.data.toList 47 then 0 else zfw (s.data.toList++ [47]++txt n)
theorem ztb {n:Int} (h:I64 n):(txt n).length<=21:=by
 unfold I64 at h;have:=zfA (m:=n.natAbs) (by omega);unfold txt;split<;>simp<;>omega
theorem zho (s:ByteArray) (n:Int) (w:World) (hsp:SpaceAt w) (hs:s.size<=140737488355328) (hn:I64 n):Calls Tryz.prog 114 #[.string s,.int .i64 n] w fun e w'=>e= .returned (.int .i64 (zbu s n))/\Below w.heap.size w w':=by
 by_cases hneg:n<0
 ·have E:Hid (zbu s n=0):=zzH (by unfold zbu;rw [if_pos (.inl hneg)])
  go_in;go_wp2;go_ret;exact⟨zcQ E.out.symm,zzR _ _⟩
 ·have HC:=Tryz.strings_Contains_one s 47
  by_cases hsl:0<=Lib.indexByte s.data.toList 47
  ·have E:Hid (zbu s n=0):=zzH (by unfold zbu;rw [if_pos (.inr hsl)])
   rw [decide_eq_true hsl]at HC;go_in;go_wp2_with (go_at_call 141;refine(HC _).mono ?_;rintro e w1 ⟨rfl,rfl⟩);go_ret;exact⟨zcQ E.out.symm,zzR _ _⟩
  ·have E:Hid (zbu s n=zfw (s.data.toList++ [47]++txt n)):=zzH (by unfold zbu;rw [if_neg (by omega)])
   rw [decide_eq_false hsl]at HC;have HL:=zzH (ztb hn);go_in;have hsz:s.size+1+(txt n).length<=9223372036854775807:=by have:=HL.out;omega
   have HL2:Hid ((ByteArray.mk (s.data.toList++ [47]++txt n).toArray).size<=maxLen):=zzH (by
    have h1:(ByteArray.mk (s.data.toList++ [47]++txt n).toArray).size=s.size+1+(txt n).length:=by
     show(s.data.toList++ [47]++txt n).toArray.size=_;rw [List.size_toArray,zzq1,zzq1];rfl
    rw [h1];unfold maxLen;omega)
   have hky:keyOf Tryz.prog 9 (.string (s++⟨#[47]⟩++⟨(txt n).toArray⟩))=some (.string (s.data.toList++ [47]++txt n)):=by
    have h:=keyOf_string_mk (P:=Tryz.prog) (k:=9) (s:=⟨(s.data.toList++ [47]++txt n).toArray⟩) Tryz.underlying9 (HL2.out)
    have e:(⟨(s.data.toList++ [47]++txt n).toArray⟩:ByteArray)=s++⟨#[47]⟩++⟨(txt n).toArray⟩:=by
     apply ByteArray.ext;simp
    rwa [e]at h
   have HK:=zzH hky;clear hky;go_wp2_with (go_at_call 141;refine(HC _).mono ?_;rintro e w0 ⟨rfl,rfl⟩);refine(zlO _ hsp).mono ?_;rintro e w1 ⟨M,rfl,⟨D,hown,hD⟩,hB1⟩;go_wp2_with (go_at_call 38;refine(zlh n _ hn).mono ?_);rintro e w2 ⟨rfl,hB2⟩;have hown2:w2.ownsMap Tryz.prog 9 (plainElem Tryz.prog 3) M _ D:=hown.kept (row:=none) ⟨hB2.os,hB2.tape,hB2.output,hB2.size,fun k hk _=>hB2.block k hk⟩ (by simp);have hB12:Below w0.heap.size w0 w2:=zd hB1 hB2;have HD:=zzH (hD (s.data.toList++ [47]++txt n));clear hown hD HC;go_wp2_with (at_lookup;refine wpList_lookup_own_int _ rfl _ _ 206 rfl 9 3 .i64 zoC Tryz.underlying206 Tryz.underlying3 (zsR _) M 72 D rfl hown2 _ (.string (s.data.toList++ [47]++txt n)) rfl HK.out ?_);intro c hat hwc
   have E2:Hid (c=zbu s n):=zzH (by
    rw [E.out];have h1:=HD.out;simp only [zzq4,List.singleton_append]at h1 hat ⊢;have h:=h1.symm.trans hat;injection h with h;injection h with _ h;exact h.symm)
   clear hat hwc;go_wp2;go_ret;exact⟨zcQ E2.out,hB12⟩
def Tw (ws:List (List UInt8)):List UInt8:=32::ws.flatMap fun w=>w++ [32]
theorem zsg (w:List UInt8) (ws:List (List UInt8)):Tw (w::ws)=32::(w++Tw ws):=by
 unfold Tw;rw [List.flatMap_cons,zzq4];rfl
theorem zmo: ∀{x w b c:List UInt8},32∉x->32∉w->x++32::b=w++32::c->x=w
 |[],[],_,_,_,_,_=>rfl
 |[],y::w,_,_,_,hw,h=>by
  injection h with h1 _;subst h1;exact absurd zzg hw
 |y::x,[],_,_,hx,_,h=>by
  injection h with h1 _;subst h1;exact absurd zzg hx
 |y::x,z::w,b,c,hx,hw,h=>by
  injection h with h1 h2;subst h1;rw [zmo (fun h=>hx (List.mem_cons_of_mem _ h)) (fun h=>hw (List.mem_cons_of_mem _ h)) h2]
theorem ziI {x:List UInt8} (hx:32∉x): ∀(ws:List (List UInt8)),(∀w∈ws,32∉w)->((32::(x++ [32])) <:+:Tw ws↔x∈ws)
 |[],_=>by
  constructor
  ·rintro⟨a,b,h⟩
   have:=congrArg List.length h;simp [Tw]at this;omega
  ·intro h;cases h
 |w::ws,hws=>by
  have ih:=ziI hx ws (fun v hv=>hws v (zzh _ hv));have hw:=hws w zzg;rw [zsg];constructor
  ·rintro⟨a,b,h⟩
   cases a with
   |nil=>
    have h2:x++32::b=w++32::ws.flatMap (fun w=>w++ [32]):=by
     simp only [List.nil_append,List.cons_append,zzq4,List.cons.injEq,true_and]at h;exact h
    rw [zmo hx hw h2];exact zzg
   |cons y a=>
    have h2:a++(32::(x++ [32])++b)=w++Tw ws:=by
     rw [List.cons_append,List.cons_append]at h;injection h with _ h;rw [<-h,zzq4]
    rcases List.append_eq_append_iff.1 h2 with⟨c,h3,h4⟩|⟨c,h3,h4⟩
    ·cases c with
     |nil=>
      rw [List.append_nil]at h3;refine zzh _ (ih.1 ⟨[],b,?_⟩);rw [List.nil_append,h4];rfl
     |cons z c=>
      rw [List.cons_append,List.cons_append]at h4;injection h4 with h5 _;subst h5;exact absurd (by rw [h3];exact List.mem_append_right _ zzg) hw
    ·exact zzh _ (ih.1 ⟨c,b,by rw [h4,zzq4]⟩)
  ·intro h
   rcases List.mem_cons.1 h with rfl|h
   ·exact⟨[],ws.flatMap (fun w=>w++ [32]),by simp [Tw]⟩
   ·obtain⟨a,b,e⟩:=ih.2 h
    exact⟨32::(w++a),b,by rw [<-e];simp⟩
def zd8 (s p:List UInt8):Bool:=decide (∃i,i<s.length+1/\i+p.length<=s.length/\(s.drop i).take p.length=p)
theorem zkI (s p:List UInt8):zd8 s p=decide (p <:+:s):=by
 unfold zd8;rw [decide_eq_decide];constructor
 ·rintro⟨i,_,_,h⟩
  exact⟨s.take i,(s.drop i).drop p.length,by
    rw [<-h,List.length_take];rw [zzq4];conv=>rhs;rw [<-List.take_append_drop i s]
    congr 1
    have:min p.length (s.drop i).length=p.length:=by
     have:=congrArg List.length h;rw [List.length_take]at this;exact this
    rw [this];exact List.take_append_drop _ _⟩
 ·rintro⟨a,b,rfl⟩
  refine⟨a.length,by simp only [zzq1];omega,by simp only [zzq1];omega,?_⟩;rw [zzq4,List.drop_left,List.take_left]
def zdQ (c:Nat):List (List UInt8):=if c=1 then words1 else if c=2 then words2 else if c=3 then words3 else if c=4 then words4 else []
def zif (c:Nat):List UInt8:=Tw (zdQ c)
def zb5 (s:ByteArray) (n:Nat):List UInt8:=s.data.toList++ [47,UInt8.ofNat (48+n)]
def zc7 (s:ByteArray) (n:Int):Int:=
 if zw s=true/\0<=n/\n<=9 then
  if zb5 s n.toNat∈words1 then 1 else if zb5 s n.toNat∈words2 then 2 else if zb5 s n.toNat∈words3 then 3 else if zb5 s n.toNat∈words4 then 4 else 0
 else 0
theorem zfB {c:Int}: ∀(ws:List (List UInt8)) (t:List UInt8->Int) (k:List UInt8),zcu c ws t k=if k∈ws then c else t k
 |[],t,k=>by rw [if_neg (by simp)];rfl
 |x::ws,t,k=>by
  show zcu c ws (zfs t x c) k=_;rw [zfB ws _ k];by_cases h:k∈ws
  ·rw [if_pos h,if_pos (List.mem_cons_of_mem _ h)]
  ·rw [if_neg h]
   unfold zfs;by_cases e:k=x
   ·rw [if_pos e,if_pos (by rw [e];exact List.mem_cons_self)]
   ·rw [if_neg e,if_neg (fun hm=>(List.mem_cons.1 hm).elim e h)]
theorem zlC:((words1.all fun x=>!(words2.elem x)&& !(words3.elem x)&& !(words4.elem x))&&(words2.all fun x=>!(words3.elem x)&& !(words4.elem x))&&(words3.all fun x=>!(words4.elem x)))=true:=by decide +kernel
def zj8 (w:List UInt8):Bool:=
 match w.reverse with
 |d::47::r=>decide (48<=d.toNat/\d.toNat<=57)&&(decide (47∉r)&&zw ⟨r.reverse.toArray⟩)
 |_=>false
theorem znE:(words1++(words2++(words3++words4))).all zj8=true:=by decide +kernel
theorem zj1:(words1++(words2++(words3++words4))).all (fun w=>decide (32∉w))=true:=by decide +kernel
theorem zrK {w:List UInt8} (h:zj8 w=true): ∃(r:List UInt8) (d:UInt8),w=r++ [47,d]/\48<=d.toNat/\d.toNat<=57/\47∉r/\zw ⟨r.toArray⟩=true:=by
 unfold zj8 at h;split at h
 ·rename_i d r e
  rw [zzq6,zzq6,zzq7,zzq7]at h;have e2:=congrArg List.reverse e;rw [List.reverse_reverse]at e2;refine⟨r.reverse,d,by rw [e2];simp,h.1.1,h.1.2,by simpa using h.2.1,h.2.2⟩
 ·cases h
theorem zkg: ∀{x w b c:List UInt8},47∉x->47∉w->x++47::b=w++47::c->x=w/\b=c
 |[],[],_,_,_,_,h=>by injection h with _ h;exact⟨rfl,h⟩
 |[],y::w,_,_,_,hw,h=>by
  injection h with h1 _;subst h1;exact absurd zzg hw
 |y::x,[],_,_,hx,_,h=>by
  injection h with h1 _;subst h1;exact absurd zzg hx
 |y::x,z::w,b,c,hx,hw,h=>by
  injection h with h1 h2;subst h1;obtain⟨e1,e2⟩:=zkg (fun h=>hx (zzh _ h)) (fun h=>hw (zzh _ h)) h2;exact⟨by rw [e1],e2⟩
theorem zfE: ∀(l:List UInt8) (c:UInt8),(0<=Lib.indexByte l c)↔c∈l
 |[],c=>by simp [Lib.indexByte]
 |b::l,c=>by
  have ih:=zfE l c;have hg:=Lib.indexByte_ge l c;unfold Lib.indexByte;by_cases e:(b==c)=true
  ·rw [if_pos e]
   simp [eq_of_beq e]
  ·rw [if_neg e]
   have hne:b≠c:=fun h=>e (by rw [h];exact beq_self_eq_true c)
   rw [List.mem_cons,<-ih];by_cases z:(Lib.indexByte l c== -1)=true
   ·rw [if_pos z]
    have:=eq_of_beq z;constructor
    ·intro h;omega
    ·rintro(h|h)
     ·exact absurd h.symm hne
     ·omega
   ·rw [if_neg z]
    have:Lib.indexByte l c≠ -1:=fun h=>z (by rw [h];rfl)
    constructor
    ·intro h;exact .inr (by omega)
    ·intro _;omega
theorem zjI {n:Int} (h0:0<=n) (h9:n<=9):txt n= [UInt8.ofNat (48+n.toNat)]:=by
 unfold txt;rw [if_neg (by omega),zd5 (by omega)];unfold dgt;rw [show n.natAbs%10=n.toNat by omega]
theorem zsH {m:Nat} (h: ¬m<10):2<=(dig m).length:=by
 rw [zfM h]
 have:1<=(dig (m/10)).length:=by
  by_cases h2:m/10<10
  ·rw [zd5 h2];simp
  ·rw [zfM h2];simp
 simp;omega
theorem zsW {n:Int} (hn:0<=n) {d:UInt8} (h:txt n= [d]):n<=9/\d=UInt8.ofNat (48+n.toNat):=by
 by_cases h9:n<=9
 ·rw [zjI hn h9]at h;injection h with h _;exact⟨h9,h.symm⟩
 ·have:=zsH (m:=n.natAbs) (by omega)
  unfold txt at h;rw [if_neg (by omega)]at h;rw [h]at this;simp at this
theorem zhk {s:ByteArray} (h:zw s=true):47∉s.data.toList/\32∉s.data.toList:=by
 unfold zw at h;rw [zzq6,zzq7]at h
 have: ∀c∈s.data.toList,c≠47/\c≠32:=fun c hc=>by
  obtain⟨j,hj,rfl⟩:=List.getElem_of_mem hc;have hj2:j<s.size:=by simpa using hj
  have h1:=h.2 j hj2;have e:s[j].toNat=s.data.toList[j].toNat:=by rw [Array.getElem_toList];rfl
  rw [e]at h1;constructor
  ·intro h2;rw [h2]at h1;unfold zbd at h1;revert h1;simp
  ·intro h2;rw [h2]at h1;unfold zbd at h1;revert h1;simp
 exact⟨fun h=>(this _ h).1 rfl,fun h=>(this _ h).2 rfl⟩
theorem zrR {w:List UInt8} (h:w∈words1\/w∈words2\/w∈words3\/w∈words4):zj8 w=true:=by
 refine zzp.1 znE w ?_;rw [List.mem_append,List.mem_append,List.mem_append];exact h
theorem zdP (s:ByteArray) (n:Int):zbu s n=zc7 s n:=by
 have hap:=zlC;simp only [zzq6,List.all_eq_true,Bool.not_eq_true']at hap;obtain⟨⟨hap1,hap2⟩,hap3⟩:=hap;have el: ∀{x:List UInt8} {l:List (List UInt8)},l.elem x=false->x∉l:=fun h hm=>by rw [List.elem_eq_true_of_mem hm]at h;cases h
 unfold zbu;by_cases hneg:n<0\/0<=Lib.indexByte s.data.toList 47
 ·rw [if_pos hneg]
  unfold zc7;rw [if_neg];rintro⟨h1,h2,h3⟩;rcases hneg with h|h
  ·omega
  ·exact(zhk h1).1 ((zfE _ _).1 h)
 ·rw [if_neg hneg]
  have hn0:0<=n:=by omega
  have hns:47∉s.data.toList:=fun h=>hneg (.inr ((zfE _ _).2 h))
  unfold zfw;rw [zfB,zfB,zfB,zfB];by_cases hm:(s.data.toList++ [47]++txt n)∈words1\/(s.data.toList++ [47]++txt n)∈words2\/(s.data.toList++ [47]++txt n)∈words3\/(s.data.toList++ [47]++txt n)∈words4
  ·obtain⟨r,d,e,hd1,hd2,hr,hname⟩:=zrK (zrR hm)
   have e2:s.data.toList++47::txt n=r++47:: [d]:=by rw [<-e];simp
   obtain⟨e3,e4⟩:=zkg hns hr e2;obtain⟨h9,hd⟩:=zsW hn0 e4
   have hv:zw s=true:=by
    have:s=⟨r.toArray⟩:=by rw [<-e3]
    rw [this];exact hname
   have ew:s.data.toList++ [47]++txt n=zb5 s n.toNat:=by unfold zb5;rw [e4,hd];simp
   rw [ew]at hm ⊢
   have ecl:zc7 s n=if zb5 s n.toNat∈words1 then 1 else if zb5 s n.toNat∈words2 then 2 else if zb5 s n.toNat∈words3 then 3 else if zb5 s n.toNat∈words4 then 4 else 0:=by
    unfold zc7;rw [if_pos ⟨hv,hn0,h9⟩]
   rw [ecl];clear ecl;generalize zb5 s n.toNat=x at *;by_cases m1:x∈words1
   ·obtain⟨⟨a,b⟩,c⟩:=hap1 x m1
    have a':=el a;have b':=el b;have c':=el c;simp only [m1,a',b',c',if_true,if_false]
   ·by_cases m2:x∈words2
    ·obtain⟨a,b⟩:=hap2 x m2
     have a':=el a;have b':=el b;simp only [m1,m2,a',b',if_true,if_false]
    ·by_cases m3:x∈words3
     ·have a':=el (hap3 x m3)
      simp only [m1,m2,m3,a',if_true,if_false]
     ·by_cases m4:x∈words4
      ·simp only [m1,m2,m3,m4,if_true,if_false]
      ·rcases hm with h|h|h|h<;>contradiction
  ·have h1: ∀{c:Prop} [Decidable c] {a b:Int},¬c->(if c then a else b)=b:=fun h=>if_neg h
   rw [if_neg (fun h=>hm (.inr (.inr (.inr h)))),if_neg (fun h=>hm (.inr (.inr (.inl h)))),if_neg (fun h=>hm (.inr (.inl h))),if_neg (fun h=>hm (.inl h))];unfold zc7;by_cases hc:zw s=true/\0<=n/\n<=9
   ·rw [if_pos hc]
    have ew:s.data.toList++ [47]++txt n=zb5 s n.toNat:=by unfold zb5;rw [zjI hc.2.1 hc.2.2];simp
    rw [ew]at hm;rw [if_neg (fun h=>hm (.inl h)),if_neg (fun h=>hm (.inr (.inl h))),if_neg (fun h=>hm (.inr (.inr (.inl h)))),if_neg (fun h=>hm (.inr (.inr (.inr h))))]
   ·rw [if_neg hc]
theorem zmC {s:ByteArray} (hs:zw s=true) {n:Nat} (hn:n<=9) {c:Nat} (hc:1<=c/\c<=4):zd8 (zif c) (32::(zb5 s n++ [32]))=decide (zb5 s n∈zdQ c):=by
 rw [zkI,decide_eq_decide];refine ziI ?_ _ (fun w hw=>?_)
 ·unfold zb5
  intro h;rw [List.mem_append]at h;rcases h with h|h
  ·exact(zhk hs).2 h
  ·have: ∀k,k<=9->(32:UInt8)∉ [47,UInt8.ofNat (48+k)]:=by decide
   exact this n hn h
 ·refine zza (zzp.1 zj1 w ?_)
  rw [List.mem_append,List.mem_append,List.mem_append];unfold zdQ at hw;rcases(show c=1\/c=2\/c=3\/c=4 by omega)with rfl|rfl|rfl|rfl
  ·exact .inl hw
  ·exact .inr (.inl hw)
  ·exact .inr (.inr (.inl hw))
  ·exact .inr (.inr (.inr hw))
theorem zqc {k b:Nat} (hk:0<k):zbd k b=decide (97<=b/\b<=122\/65<=b/\b<=90\/48<=b/\b<=57\/b=95\/b=64):=by
 unfold zbd;rw [decide_eq_decide];constructor
 ·rintro(h|⟨_,h⟩)
  ·exact .inl h
  ·exact .inr h
 ·rintro(h|h)
  ·exact .inl h
  ·exact .inr ⟨hk,h⟩
theorem zom (b:Nat):zbd 0 b=decide (97<=b/\b<=122):=by
 unfold zbd;rw [decide_eq_decide];constructor
 ·rintro(h|⟨h,_⟩)
  ·exact h
  ·omega
 ·exact .inl
theorem zdE (s:ByteArray) (w:World) (hs:s.size<=maxLen):Calls Tryz.prog 121 #[.string s] w fun e w'=>e= .returned (.bool (zw s))/\w=w':=by
 unfold maxLen at hs;by_cases h0:s.size<1
 ·exact zz139
 ·by_cases h1:32<s.size
  ·exact zz139
  ·have hpos:0<s.size:=by omega
   have HB:=zzH (@zhs s 0 hpos);have HZ:=zzH (zom (s[0]'hpos).toNat);by_cases c0:(s[0]'hpos).toNat<97
   ·exact zz138
   ·by_cases c1:122<(s[0]'hpos).toNat
    ·exact zz138
    ·have HK0:Hid (∀j (h:j<s.size),j<1->zbd j s[j].toNat=true):=zzH (fun j h hj=>by
      obtain rfl:j=0:=by omega
      rw [HZ.out];exact zzT (by omega))
     go_in;go_wp2_with fail;go_loop [3] (fun iv=> ∃k:Nat,1<=k/\k<=s.size/\iv= .int .i64 k/\Hid (∀j (h:j<s.size),j<k->zbd j s[j].toNat=true)) (fun iv=>s.size-(intOf iv).toNat)
     case atStart=>exact⟨1,zzL _,by omega,by go_num,HK0⟩
     case round=>
      obtain⟨k,hk1,hk,rfl,HK⟩:=hrel;clear c0 c1;by_cases hlt:k<s.size
      ·have HP:=zzH (zqc (b:=s[k].toNat) hk1)
       have HBK:=zzH (@zhs s k hlt)
       have HN:Hid (zbd k s[k].toNat=true-> ∀j (h:j<s.size),j<k+1->zbd j s[j].toNat=true):=zzH (fun hne j h hj=>by
        rcases Nat.eq_or_lt_of_le (Nat.le_of_lt_succ hj)with e|e
        ·subst e;exact hne
        ·exact HK.out j h e)
       go_upto_region 7 with fail;generalize s[k].toNat=b at *;have hcl:(97<=b/\b<=122)\/(65<=b/\b<=90)\/(48<=b/\b<=57)\/(b=95)\/(b=64)\/(123<=b)\/(91<=b/\b<=96/\b≠95)\/(58<=b/\b<=63)\/(b<48):=by omega
       rcases hcl with hc|hc|hc|hc|hc|hc|hc|hc|hc
       ·have e0:decide ((97:Int)<=(b:Int))=true:=zzT (by omega)
        have e1:decide ((b:Int)<=122)=true:=zzT (by omega);have e2:decide ((65:Int)<=(b:Int))=true:=zzT (by omega);have e3:decide ((b:Int)<=90)=false:=zzD (by omega);exact zz137
       ·have e0:decide ((97:Int)<=(b:Int))=false:=zzD (by omega)
        have e1:decide ((b:Int)<=122)=true:=zzT (by omega);have e2:decide ((65:Int)<=(b:Int))=true:=zzT (by omega);have e3:decide ((b:Int)<=90)=true:=zzT (by omega);exact zz137
       ·have e0:decide ((97:Int)<=(b:Int))=false:=zzD (by omega)
        have e1:decide ((b:Int)<=122)=true:=zzT (by omega);have e2:decide ((65:Int)<=(b:Int))=false:=zzD (by omega);have e3:decide ((b:Int)<=90)=true:=zzT (by omega);have e4:decide ((48:Int)<=(b:Int))=true:=zzT (by omega);have e5:decide ((b:Int)<=57)=true:=zzT (by omega);have e6:((b:Int)!=95)=true:=by rw [bne_iff_ne];omega
        exact zz208
       ·have e0:decide ((97:Int)<=(b:Int))=false:=zzD (by omega)
        have e1:decide ((b:Int)<=122)=true:=zzT (by omega);have e2:decide ((65:Int)<=(b:Int))=true:=zzT (by omega);have e3:decide ((b:Int)<=90)=false:=zzD (by omega);have e4:decide ((48:Int)<=(b:Int))=true:=zzT (by omega);have e5:decide ((b:Int)<=57)=false:=zzD (by omega);have e6:((b:Int)!=95)=false:=by rw [bne_eq_false_iff_eq];omega
        exact zz208
       ·have e0:decide ((97:Int)<=(b:Int))=false:=zzD (by omega)
        have e1:decide ((b:Int)<=122)=true:=zzT (by omega);have e2:decide ((65:Int)<=(b:Int))=false:=zzD (by omega);have e3:decide ((b:Int)<=90)=true:=zzT (by omega);have e4:decide ((48:Int)<=(b:Int))=true:=zzT (by omega);have e5:decide ((b:Int)<=57)=false:=zzD (by omega);have e6:((b:Int)!=95)=true:=by rw [bne_iff_ne];omega
        have e7:((b:Int)!=64)=false:=by rw [bne_eq_false_iff_eq];omega
        have HN2:=zzH (HN.out (by rw [HP.out];exact zzT (by omega)));clear hc HP HBK HN;go_wp2_with fail;go_round
        case rel=>exact⟨k+1,by omega,by omega,by go_num,HN2⟩
        case measure=>simp [intOf];omega
       ·have e0:decide ((97:Int)<=(b:Int))=true:=zzT (by omega)
        have e1:decide ((b:Int)<=122)=false:=zzD (by omega);exact zz136
       ·have e0:decide ((97:Int)<=(b:Int))=false:=zzD (by omega)
        have e1:decide ((b:Int)<=122)=true:=zzT (by omega);exact zz136
       ·have e0:decide ((97:Int)<=(b:Int))=false:=zzD (by omega)
        have e1:decide ((b:Int)<=122)=true:=zzT (by omega);have e2:decide ((65:Int)<=(b:Int))=false:=zzD (by omega);have e3:decide ((b:Int)<=90)=true:=zzT (by omega);have e4:decide ((48:Int)<=(b:Int))=true:=zzT (by omega);have e5:decide ((b:Int)<=57)=false:=zzD (by omega);exact zz207
       ·have e0:decide ((97:Int)<=(b:Int))=false:=zzD (by omega)
        have e1:decide ((b:Int)<=122)=true:=zzT (by omega);have e2:decide ((65:Int)<=(b:Int))=false:=zzD (by omega);have e3:decide ((b:Int)<=90)=true:=zzT (by omega);have e4:decide ((48:Int)<=(b:Int))=false:=zzD (by omega);have e5:decide ((b:Int)<=57)=true:=zzT (by omega);exact zz207
      ·have E:Hid (zw s=true):=zzH (zit hpos (by omega) (fun j h=>HK.out j h (by omega)))
       exact zz140
theorem zou (s p:ByteArray) (w:World) (hs:s.size<=100000) (hp:p.size<=100000):
  Calls Tryz.prog 145 #[.string s,.string p] w fun e w'=>e= .returned (.bool (zd8 s.data.toList p.data.toList))/\w=w':=by
 have hsl:s.data.toList.length=s.size:=by simp
 have hpl:p.data.toList.length=p.size:=by simp
 have HY:Hid (∀k,k+p.size<=s.size->(s.data.toList.drop k).take p.size=p.data.toList->zd8 s.data.toList p.data.toList=true):=zzH (fun k hk h=>by
  unfold zd8;exact zzT ⟨k,by omega,by omega,by rw [hpl];exact h⟩)
 have HN:Hid ((∀j,j+p.size<=s.size->(s.data.toList.drop j).take p.size≠p.data.toList)->zd8 s.data.toList p.data.toList=false):=zzH (fun h=>by
  unfold zd8;refine zzD ?_;rintro⟨i,_,h2,h3⟩;rw [hpl]at h2 h3;exact h i (by omega) h3)
 clear hsl hpl;generalize zd8 s.data.toList p.data.toList=r at *;go_in;go_wp2_with fail;go_loop [5] (fun iv=> ∃k:Nat,k<=s.size+1/\iv= .int .i64 k/\Hid (∀j,j<k->j+p.size<=s.size->(s.data.toList.drop j).take p.size≠p.data.toList)) (fun iv=>s.size+1-(intOf iv).toNat)
 case atStart=>exact⟨0,zzZ _,rfl,zzH (fun j h=>absurd h (zzC _))⟩
 case round=>
  obtain⟨k,hk,rfl,HK⟩:=hrel;by_cases hlt:k+p.size<=s.size
  ·have hsub:(s.extract k (k+p.size)).toList=(s.data.toList.drop k).take p.size:=by
    rw [zzq14,Lib.extract_data];rw [show k+p.size-k=p.size by omega]
   have HSUB:=zzH hsub
   have HSN:Hid ((s.data.toList.drop k).take p.size≠p.data.toList-> ∀j,j<k+1->j+p.size<=s.size->(s.data.toList.drop j).take p.size≠p.data.toList):=zzH (fun hne j hj hjs=>by
    rcases Nat.eq_or_lt_of_le (Nat.le_of_lt_succ hj)with e|e
    ·subst e;exact hne
    ·exact HK.out j e hjs)
   clear hsub;by_cases he:(s.data.toList.drop k).take p.size=p.data.toList
   ·have E:Hid (r=true):=zzH (HY.out k hlt he)
    have ht:((s.extract k (k+p.size)).toList==p.toList)=true:=by rw [HSUB.out,he,zzq14];exact beq_self_eq_true _
    clear he;exact zz140
   ·have HN2:=zzH (HSN.out he)
    have ht:((s.extract k (k+p.size)).toList==p.toList)=false:=by rw [HSUB.out,zzq14,zzq3];exact he
    clear he;go_wp2_with fail;go_round
    case rel=>exact⟨k+1,by omega,by go_num,HN2⟩
    case measure=>simp [intOf];omega
  ·have E:Hid (r=false):=zzH (HN.out (fun j hj=>HK.out j (by omega) hj))
   exact zz140
def zgq (c:Nat):ByteArray:=⟨(zif c).toArray⟩
theorem zmG (c:Nat) (h:1<=c/\c<=4) (w:World):Calls Tryz.prog 146 #[.int .i64 c] w fun e w'=>e= .returned (.string (zgq c))/\w=w':=by
 rcases(show c=1\/c=2\/c=3\/c=4 by omega)with rfl|rfl|rfl|rfl
 all_goals
  go_in;go_wp2;go_ret;exact⟨by kernel_rfl,rfl⟩
theorem zlF: ∀c,c<=4->(zgq c).size<=1000:=by decide +kernel
theorem zrT (s:ByteArray) (n:Int):zN s n=(if n=1 then(s.toList== [45]||(s.toList== [98,110,111,116]||s.toList== [110,111,116]))else if n=2 then(s.toList== [45]||opTwo.any (fun x=>s.toList==x))else false):=by
 unfold zN;by_cases a:(s.toList== [45])=true
 ·rw [if_pos a,a]
  by_cases h1:n=1
  ·subst h1;rfl
  ·rw [if_neg h1]
   by_cases h2:n=2
   ·subst h2;rfl
   ·rw [if_neg h2,zzq3.2 h1,zzq3.2 h2];rfl
 ·rw [if_neg a]
  have a':(s.toList== [45])=false:=by simpa using a
  rw [a',zzq9,zzq9];by_cases b:(s.toList== [98,110,111,116]||s.toList== [110,111,116])=true
  ·rw [if_pos b,b]
   by_cases h1:n=1
   ·subst h1;rfl
   ·rw [if_neg h1,zzq3.2 h1]
    by_cases h2:n=2
    ·rw [if_pos h2]
     symm;rw [Bool.or_eq_true]at b;rw [List.any_eq_false];intro x hx;rcases b with b|b
     ·rw [eq_of_beq b]
      have:opTwo.all (fun x=>!([98,110,111,116]==x))=true:=by decide
      have:=zzp.1 this x hx
      simpa using this
     ·rw [eq_of_beq b]
      have:opTwo.all (fun x=>!([110,111,116]==x))=true:=by decide
      have:=zzp.1 this x hx
      simpa using this
    ·rw [if_neg h2]
  ·rw [if_neg b]
   have b':(s.toList== [98,110,111,116]||s.toList== [110,111,116])=false:=by simpa using b
   rw [b'];by_cases h1:n=1
   ·subst h1
    rw [if_pos rfl];split<;>rfl
   ·rw [if_neg h1]
    by_cases h2:n=2
    ·subst h2
     rw [if_pos rfl];split
     ·rename_i h;rw [h];rfl
     ·rename_i h;rw [Bool.eq_false_iff.2 h]
    ·rw [if_neg h2]
     split
     ·exact zzB.2 h2
     ·rfl
end Go.Proofs.YtijekmeocadkeaaGreatDoor
