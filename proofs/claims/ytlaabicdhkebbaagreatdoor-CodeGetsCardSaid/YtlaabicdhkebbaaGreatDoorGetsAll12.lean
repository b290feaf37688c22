/- part 12 -/
import Derived.Test.YtlaabicdhkebbaaGreatDoorGetsAll08
import Derived.Test.YtlaabicdhkebbaaGreatDoorGetsAll09
namespace Go.Proofs.YtlaabicdhkebbaaGreatDoor
open Go.RowKit
set_option linter.unusedVariables false
set_option linter.unusedSimpArgs false
set_option maxRecDepth 100000
set_option maxHeartbeats 80000000
def RdQ (r:Nat) (σ:QS) (w:World):Prop:= ∃s:ByteArray,w.heap[r]?=some (.cells #[.string s,.bool σ.bad] 70 (0,0))/\s.data.toList=σ.l/\s.size<=68719476736
def zbz {α:Type} (r:Nat) (w:World) (val:α->Value) (x:α × QS) (e:Ending) (w':World):Prop:=e= .returned (val x.1)/\RdQ r x.2 w'/\w.grownBy w' (some r)
theorem RdQ.lt {r:Nat} {σ:QS} {w:World} (h:RdQ r σ w):r<w.heap.size:=by obtain⟨s,h,-⟩:=h;exact zc h
theorem zb4 {r:Nat} {w:World} {v0 v1:Value} (h:w.heap[r]?=some (.cells #[v0,v1] 70 (0,0))):
  w.cell? ⟨r,0,none⟩=some v0/\w.cell? ⟨r,1,none⟩=some v1/\w.frozen? ⟨r,0,none⟩=false/\w.frozen? ⟨r,1,none⟩=false:=by
 have hc:=fun j=>zzq2 w r j _ _ _ h
 have hf:=fun j=>zzq9 w r j _ _ h
 exact⟨hc 0,hc 1,hf 0,hf 1⟩
theorem zpx (r:Nat) (σ:QS) (w:World) (h:RdQ r σ w) (hb:σ.bad=true):
  Calls Tryz.prog 47 #[.pointer (some ⟨r,0,none⟩)] w (zbz r w (fun n:Nat=>Value.int .i64 n) (0,σ)):=by
 obtain⟨s,hr,hl,hs⟩:=h;rw [hb]at hr;generalize hQ:zbz r w (fun n:Nat=>Value.int .i64 n) (0,σ)=Q at *;have HQ:=zzH hQ;clear hQ;obtain⟨c0,c1,f0,f1⟩:=zb4 hr;have hlt:=zc hr;have HR:=zzH hr;have HL:=zzH hl
 have HF:Hid (Q (.returned (.int .i64 0)) (w.setCell ⟨r,1,none⟩ (.bool true))):=zzH (by
  rw [<-HQ.out];exact⟨rfl,⟨s,by rw [hb];exact zzS _ r 1 _ _ _ HR.out,hl,hs⟩,zG w r 1 _⟩)
 clear hr hl;go_in;go_wp2_with fail;go_loop [3,4,5] (fun n u i=>n= .int .i64 0/\u= .int .i64 1/\i= .int .i64 0) (fun _ _ _=>0)
 case atStart=>exact⟨rfl,rfl,rfl⟩
 case round=>
  obtain⟨rfl,rfl,rfl⟩:=hrel
  cases hz:decide ((0:Int)<(s.size:Int))with
  |true=>
   go_wp2_with fail
   all_goals exact HF.out
  |false=>
   go_wp2_with fail
   all_goals exact HF.out
theorem zog (r:Nat) (σ:QS) (w:World) (h:RdQ r σ w) (hb:σ.bad=false):
  Calls Tryz.prog 47 #[.pointer (some ⟨r,0,none⟩)] w (zbz r w (fun n:Nat=>Value.int .i64 n) (zv σ)):=by
 obtain⟨s,hr,hl,hs⟩:=h;rw [hb]at hr;have hn:zv σ=(vD σ.l).elim (0,⟨σ.l,true⟩) fun x=>(x.1,⟨x.2,false⟩):=if_neg (by rw [hb];simp)
 rw [<-hl]at hn;generalize hQ:zbz r w (fun n:Nat=>Value.int .i64 n) (zv σ)=Q at *;have HQ:=zzH hQ;clear hQ;obtain⟨c0,c1,f0,f1⟩:=zb4 hr;have hlt:=zc hr;have HR:=zzH hr;have HL:=zzH hl;have HN:=zzH hn
 have HF:Hid (vD s.data.toList=none-> ∀wy,Below w.heap.size w wy->Q (.returned (.int .i64 0)) (wy.setCell ⟨r,1,none⟩ (.bool true))):=zzH (fun hv wy hy=>by
  rw [<-HQ.out,HN.out,hv];exact⟨rfl,⟨s,zzS _ r 1 _ _ _ ((hy.block r hlt).trans HR.out),HL.out.symm▸rfl,hs⟩,zh (zbf hy _) (zG wy r 1 _)⟩)
 clear hr hl hn;go_in;go_wp2_with fail;go_loop [3,4,5] (fun n u i=> ∃j nv:Nat,j<=6/\j<=s.size/\i= .int .i64 j/\n= .int .i64 nv/\nv<128^j/\u= .int .i64 ((128^j:Nat):Int)/\Hid (zcx 6 s.data.toList=(zcx (6-j) (s.data.toList.drop j)).map fun x=>(nv+128^j*x.1,x.2+j))) (fun _ _ i=>6-(intOf i).toNat)
 case atStart=>exact⟨0,0,by omega,by omega,rfl,rfl,by decide,rfl,zzH (by rw [List.drop_zero,Nat.sub_zero];cases zcx 6 s.data.toList<;>simp)⟩
 case round=>
  obtain⟨j,nv,h6,hjs,rfl,rfl,hnv,rfl,HI⟩:=hrel;by_cases hlen:j<s.size
  ·by_cases hj6:j<6
   ·have hjl:j<s.data.toList.length:=by rw [Array.length_toList];exact hlen
    have hcj:s.data.toList[j]'hjl=s[j]'hlen:=rfl;have hp6:128^j<=34359738368:=zzY (Nat.pow_le_pow_right (by omega) (show j<=5 by omega)) (by decide);have hp0:=Nat.pow_pos (n:=j) (show 0<128 by omega);by_cases hc:128<=(s[j]'hlen).toNat
    ·have hst:=znH hjl hj6 HI.out (by rw [hcj];exact hc)
     rw [hcj]at hst;have hcl:=(s[j]'hlen).toNat_lt;have hlt2:decide (((s[j]'hlen).toNat:Int)<128)=false:=zzD (by omega);have hrm:(((s[j]'hlen).toNat:Int)).tmod 128=(((s[j]'hlen).toNat-128:Nat):Int):=by rw [Int.tmod_eq_emod_of_nonneg (by omega)];omega
     have hmul:128^j*((s[j]'hlen).toNat-128)<128^j*128:=(Nat.mul_lt_mul_left hp0).2 (by omega);have hK:(s[j]'hlen).toNat-128<128:=by omega
     rw [Nat.pow_succ]at hst;generalize hP:128^j=P at *;generalize hKK:(s[j]'hlen).toNat-128=K at *;generalize hM:P*K=M at *;have hKP:(K:Int)*(P:Int)=(M:Int):=by rw [<-hM,Int.natCast_mul,Int.mul_comm]
     have hM2:M+P<=P*128:=by
      have:=Nat.mul_le_mul_left P (show K+1<=128 by omega);rw [Nat.mul_add,Nat.mul_one,hM]at this;exact this
     have hnm:Hid (nv+M<P*128):=zzH (by omega);have HST:=zzH hst;have HP2:Hid (128^(j+1)=P*128):=zzH (by rw [Nat.pow_succ,hP]);have HPP:=zzH hP;clear hst hKK hM hP hmul hcj;go_wp2;go_round
     case rel=>exact⟨j+1,nv+M,by omega,by omega,by go_num,by go_num,by rw [HP2.out];exact hnm.out,by rw [HP2.out];go_num,by rw [HP2.out];exact HST⟩
     case measure=>simp [intOf];omega
    ·
     have hcl:=(s[j]'hlen).toNat_lt;have hsl:=znk hjl hj6 HI.out (by rw [hcj];omega);rw [hcj]at hsl;have hlt2:decide (((s[j]'hlen).toNat:Int)<128)=true:=zzT (by omega);have hrm:(((s[j]'hlen).toNat:Int)).tmod 128=((s[j]'hlen).toNat:Int):=by rw [Int.tmod_eq_emod_of_nonneg (by omega)];omega
     generalize hP:128^j=P at *;have hmul:P*(s[j]'hlen).toNat<=P*127:=Nat.mul_le_mul_left P (by omega);generalize hM:P*(s[j]'hlen).toNat=M at *;have hKP:((s[j]'hlen).toNat:Int)*(P:Int)=(M:Int):=by rw [<-hM,Int.natCast_mul,Int.mul_comm]
     have HSL:=zzH hsl;have hVA:=fun wx=>zbN ((nv+M:Nat):Int) wx (by omega) (by omega)
     rw [zzq11]at hVA;have HVA:=zzH hVA;clear hsl hVA hP hM hcj;go_upto_region 9 with fail;have hle:(j:Int)+1<=(s.size:Int):=by omega
     have hle0:(0:Int)<=(j:Int)+1:=by omega
     have hwr:IntKind.i64.wrap ((j:Int)+1)=(j:Int)+1:=by rw [zzq3];omega
     have hww:wrap64 ((j:Int)+1)=(j:Int)+1:=by unfold wrap64;omega
     have hx:(s.extract 0 (j+1)).toList=s.data.toList.take (j+1):=by have:=zfS s 0 (j+1);rw [Nat.zero_add,List.drop_zero]at this;rw [zzq10];exact this
     have e1:(⟨(zg (nv+M)).toArray⟩:ByteArray).toList=zg (nv+M):=by rw [zzq10]
     have HX1:=zzH hx;have HE1:=zzH e1;clear hx e1;refine wp_region_held_drew (S:=fun w'=>w'.cell? ⟨r,0,none⟩=some (.string s)) (by kernel_rfl) (by simpa using c0) (fun hHeld=>?_);refine wpAnyH_take (i:=0) (v:=?v0) rfl (by kernel_rfl) (by kernel_rfl) (by kernel_rfl) (fun _ _ _ h=>h) (Or.inl ⟨by rfl,?y0⟩) hHeld ?_
     case y0=>(intro w hSw;(try dsimp only at hSw);go_simp;(try with_reducible rfl))
     simp only [zzX0];refine wpAnyH_take (i:=2) (v:=?v2) rfl (by kernel_rfl) (by kernel_rfl) (by kernel_rfl) (fun _ _ _ h=>h) (Or.inl ⟨by rfl,?y2⟩) hHeld ?_
     case y2=>(intro w hSw;(try dsimp only at hSw);go_simp;(try with_reducible rfl))
     simp only [zzX0];refine wpAnyH_take (i:=3) (v:=?v3) rfl (by kernel_rfl) (by kernel_rfl) (by kernel_rfl) (fun _ _ _ h=>h) (Or.inl ⟨by rfl,?y3⟩) hHeld ?_
     case y3=>(intro w hSw;(try dsimp only at hSw);go_simp;(try with_reducible rfl))
     simp only [zzX0];refine wpAnyH_take (i:=4) (v:=?v4) rfl (by kernel_rfl) (by kernel_rfl) (by kernel_rfl) (fun _ _ _ h=>h) (Or.inl ⟨by rfl,?y4⟩) hHeld ?_
     case y4=>(intro w hSw;(try dsimp only at hSw);go_simp;(try with_reducible rfl))
     simp only [zzX0];refine wpAnyH_take (i:=5) (v:=?v5) rfl (by kernel_rfl) (by kernel_rfl) (by kernel_rfl) (fun _ _ _ h=>h) (Or.inl ⟨by rfl,?y5⟩) hHeld ?_
     case y5=>(intro w hSw;(try dsimp only at hSw);go_simp;(try with_reducible rfl))
     simp only [zzX0];refine wpAnyH_take (i:=6) (v:=?v6) rfl (by kernel_rfl) (by kernel_rfl) (by kernel_rfl) (fun _ _ _ h=>h) (Or.inl ⟨by rfl,?y6⟩) hHeld ?_
     case y6=>(intro w hSw;(try dsimp only at hSw);go_simp;(try with_reducible rfl))
     simp only [zzX0];refine wpAnyH_take (i:=7) (v:=.int .i64 ((j:Int)+1)) rfl (by kernel_rfl) (by kernel_rfl) (by kernel_rfl) (fun _ _ _ h=>h) (Or.inl ⟨by rfl,?y7⟩) hHeld ?_
     case y7=>(intro w hSw;(try dsimp only at hSw);go_simp;(try with_reducible rfl);(try rw [hwr]);(try rfl))
     simp only [zzX0];refine wpAnyH_take (i:=8) (v:=.string (s.extract 0 (j+1))) rfl (by kernel_rfl) (by kernel_rfl) (by kernel_rfl) (fun _ _ _ h=>h) (Or.inl ⟨by rfl,?y8⟩) hHeld ?_
     case y8=>(intro w hSw;(try dsimp only at hSw);go_simp;(try with_reducible rfl);(try simp only [hwr]);(try rw [if_pos ⟨hle0,hle⟩]);(try rfl))
     simp only [zzX0];refine wpAnyH_ready (rs:=[1]) (by kernel_rfl) (by simp) ?_;refine AllReadyH.cons rfl (fun K hK=>?_) AllReadyH.nil;simp only [zzX6];go_simp;refine(HVA.out _).mono ?_;rintro e w4 ⟨rfl,hb4⟩;have HBV:=zzH ((zzR w.heap.size w).drew.trans hb4);clear hb4;go_wp2_with fail;refine hK.out _ _ ((HBV.out.cell (p:=⟨r,0,none⟩) hlt).trans c0) (fun hHeld2=>?_);clear hK K
     try simp only [zzX0]
     by_cases hcc:zg (nv+M)=s.data.toList.take (j+1)
     ·have HCM:Hid (zg (nv+M)=(s.extract 0 (j+1)).toList):=zzH (hcc.trans HX1.out.symm)
      have HV:Hid (zv σ=(nv+M,⟨s.data.toList.drop (j+1),false⟩)):=zzH (by rw [HN.out,zhl,HSL.out,zzq0,if_pos hcc];rfl)
      have HTL:Hid ((s.extract (j+1) s.size).data.toList=s.data.toList.drop (j+1)):=zzH (by
       rw [ByteArray.data_extract,Array.toList_extract,List.extract_eq_take_drop,List.take_of_length_le (by rw [List.length_drop,Array.length_toList];exact Nat.le_refl _)])
      have HTS:Hid ((s.extract (j+1) s.size).size<=68719476736):=zzH (by rw [ByteArray.size_extract,Nat.min_self];exact zzY (Nat.sub_le _ _) hs);have HR4:=zzH ((HBV.out.block r hlt).trans HR.out);clear hcc;refine wpAnyH_take (i:=9) (v:=.bool false) rfl (by kernel_rfl) (by kernel_rfl) (by kernel_rfl) (fun _ _ _ h=>h) (Or.inl ⟨by rfl,?y9⟩) hHeld2 ?_
      case y9=>(intro w hSw;(try dsimp only at hSw);go_simp;(try with_reducible rfl);(try exact HCM.out))
      simp only [zzX0];refine wpAnyH_done (by kernel_rfl) ?_ _;clear hHeld hHeld2;have hr4:=(HBV.out.block r hlt).trans HR.out;have hlt4:=zc hr4;clear c0 c1 f0 f1;obtain⟨c0,c1,f0,f1⟩:=zb4 hr4;clear hr4;go_wp2_with fail;rw [<-HQ.out,HV.out];refine⟨?_,⟨_,zzS w4 r 0 _ _ _ HR4.out,HTL.out,HTS.out⟩,zh (zbf HBV.out _) (zG w4 r 0 _)⟩;show Ending.returned (Value.int .i64 ((nv:Int)+(M:Int)))= .returned (.int .i64 ((nv+M:Nat):Int));rw [Int.natCast_add]
     ·have HCM:Hid (¬zg (nv+M)=(s.extract 0 (j+1)).toList):=zzH (fun h=>hcc (h.trans HX1.out))
      have hv:vD s.data.toList=none:=by rw [zhl,HSL.out,zzq0,if_neg hcc]
      have HG:=zzH (HF.out hv w4 HBV.out);clear hv hcc HF;refine wpAnyH_take (i:=9) (v:=.bool true) rfl (by kernel_rfl) (by kernel_rfl) (by kernel_rfl) (fun _ _ _ h=>h) (Or.inl ⟨by rfl,?y9⟩) hHeld2 ?_
      case y9=>(intro w hSw;(try dsimp only at hSw);go_simp;(try with_reducible rfl);(try exact HCM.out))
      simp only [zzX0];refine wpAnyH_done (by kernel_rfl) ?_ _;clear hHeld hHeld2;have hr4:=(HBV.out.block r hlt).trans HR.out;have hlt4:=zc hr4;clear c0 c1 f0 f1;obtain⟨c0,c1,f0,f1⟩:=zb4 hr4;clear hr4;go_wp2_with fail;exact HG.out
   ·have hv:vD s.data.toList=none:=by rw [zhl,zke (.inr (by omega)) HI.out];rfl
    have HG:=zzH (HF.out hv w (zzR _ _));clear hv HF;go_wp2_with fail;exact HG.out
  ·have hv:vD s.data.toList=none:=by rw [zhl,zke (.inl (by rw [Array.length_toList];show s.size<=j;omega)) HI.out];rfl
   have HG:=zzH (HF.out hv w (zzR _ _));clear hv HF;go_wp2_with fail;exact HG.out
theorem zfC (n:Nat) (σ:RS):(zbk n σ).1.size<=n/\(zbk n σ).2.l.length<=σ.l.length:=by
 unfold zbk;split
 ·exact⟨zzZ _,zzL _⟩
 ·refine⟨?_,?_⟩
  ·show(σ.l.take n).toArray.size<=n;rw [List.size_toArray,List.length_take];omega
  ·show(σ.l.drop n).length<=_;rw [List.length_drop];omega
theorem zf8 (k:Nat) (σ:RS):(zi k σ).1<256^k/\(zi k σ).2.l.length<=σ.l.length:=by
 refine⟨?_,(zfC k σ).2⟩;unfold zi;exact zzW (zgi _) (Nat.pow_le_pow_right (by omega) (by have:=(zfC k σ).1;rw [Array.length_toList];exact this))
theorem zeQ (σ:RS):(zbi σ).1.size<256:=by
 unfold zbi;exact Nat.lt_of_le_of_lt (zfC _ _).1 (zf8 1 _).1
theorem zie (n:Int):I64 (wrap64 n):=by unfold I64 wrap64;omega
theorem zmU (sg:Nat) (b:Bool) (x:ByteArray):I64 (zeU sg b x):=by
 unfold zeU;split
 ·exact zet
 ·split
  ·exact zie _
  ·exact zie _
theorem zmB (σ:RS):I64 (zdU σ).1:=zmU _ _ _
theorem zee {f:Nat} (H: ∀σ,OkF (f+1) (zt f σ).1): ∀(n:Nat) (σ:RS),(zbn (zt f) n σ).1.length<=n/\ ∀x∈(zbn (zt f) n σ).1,OkF (f+1) x
 |0,σ=>⟨zzL _,fun x hx=>absurd hx (by simp [zbn])⟩
 |n+1,σ=>by
  by_cases hb:σ.bad=true
  ·have e:zbn (zt f) (n+1) σ=([],σ):=if_pos hb
   rw [e];exact⟨zzZ _,fun x hx=>absurd hx (by simp)⟩
  ·have e:zbn (zt f) (n+1) σ=((zt f σ).1::(zbn (zt f) n (zt f σ).2).1,(zbn (zt f) n (zt f σ).2).2):=if_neg hb
   obtain⟨a1,a2⟩:=zee H n (zt f σ).2;rw [e];refine⟨by show _+1<=n+1;omega,fun x hx=>?_⟩;rcases List.mem_cons.1 hx with rfl|hx
   ·exact H σ
   ·exact a2 x hx
theorem zdE {f:Nat} {k int gen arity bits:Int} {name func bytes:ByteArray} {items:List Tm} (hk:0<=k/\k<=100) (hi:I64 int) (hg:0<=gen/\gen<4294967296) (hn:name.size<256) (hf:func.size<256) (ha:0<=arity/\arity<256) (hl:items.length<=4294967296) (hb:bytes.size<=4294967296) (hz: -8<=bits/\bits<=34359738624) (hx: ∀x∈items,OkF (f+1) x):
  OkF (f+2) (tmK k int gen name func arity items bytes bits):=by
 refine⟨⟨?_,hi,?_,?_,?_,?_,?_,?_,?_⟩,hx⟩
 ·show I64 k;unfold I64;omega
 ·show I64 gen;unfold I64;omega
 ·show name.size<=maxLen;unfold maxLen;omega
 ·show func.size<=maxLen;unfold maxLen;omega
 ·show I64 arity;unfold I64;omega
 ·show items.length<=maxLen;unfold maxLen;omega
 ·show bytes.size<=maxLen;unfold maxLen;omega
 ·show I64 bits;unfold I64;omega
theorem zir {n:Nat} (h:n<4294967296):I64 (n:Int):=by unfold I64;omega
theorem zoh {n:Nat} (h:n<4294967296):I64 (zbZ n):=by unfold zbZ I64;split<;>omega
theorem zdt (f:Nat): ∀x∈([]:List Tm),OkF (f+1) x:=fun x hx=>absurd hx (by simp)
theorem zrp {f:Nat} (H: ∀σ,OkF (f+1) (zt f σ).1) (σ0 τ:RS) (n:Nat):OkF (f+2) (zfZ (zt f) σ0 n τ).1:=by
 have z:I64 0:=zet;have e:(⟨#[]⟩:ByteArray).size<256:=by decide
 have e2:(⟨#[]⟩:ByteArray).size<=4294967296:=by decide
 have g0:(0:Int)<=0/\(0:Int)<4294967296:=by decide
 have a0:(0:Int)<=0/\(0:Int)<256:=by decide
 have b0:(-8:Int)<=0/\(0:Int)<=34359738624:=by decide
 have l0:([]:List Tm).length<=4294967296:=by decide
 have n4: ∀σ,(zi 4 σ).1<4294967296:=fun σ=>(zf8 4 σ).1
 have n2: ∀σ,(zi 2 σ).1<4294967296:=fun σ=>zzW (zf8 2 σ).1 (by decide)
 have n1: ∀σ,(zi 1 σ).1<256:=fun σ=>(zf8 1 σ).1
 have g4: ∀σ,(0:Int)<=((zi 4 σ).1:Int)/\((zi 4 σ).1:Int)<4294967296:=fun σ=>by have:=n4 σ;omega
 have a1: ∀σ,(0:Int)<=((zi 1 σ).1:Int)/\((zi 1 σ).1:Int)<256:=fun σ=>by have:=n1 σ;omega
 have tk: ∀m σ,m<4294967296->(zbk m σ).1.size<=4294967296:=fun m σ h=>by have:=(zfC m σ).1;omega
 unfold zfZ;by_cases c:n=97
 ·rw [if_pos c];exact zdE (by decide) (zir (by have:=n1 τ;omega)) g0 e e a0 l0 e2 b0 (zdt f)
 rw [if_neg c];clear c;by_cases c:n=98
 ·rw [if_pos c];exact zdE (by decide) (zoh (n4 τ)) g0 e e a0 l0 e2 b0 (zdt f)
 rw [if_neg c];clear c;by_cases c:n=110
 ·rw [if_pos c];exact zdE (by decide) (zmB τ) g0 e e a0 l0 e2 b0 (zdt f)
 rw [if_neg c];clear c;by_cases c:n=119
 ·rw [if_pos c];exact zdE (by decide) z g0 (zeQ _) e a0 l0 e2 b0 (zdt f)
 rw [if_neg c];clear c;by_cases c:n=104
 ·rw [if_pos c]
  exact zdE (by decide) z g0 e e a0 (by have h1:=(zee H (zi 1 τ).1 (zi 1 τ).2).1;have h2:=n1 τ;exact zzY h1 (by omega)) e2 b0 (zee H (zi 1 τ).1 (zi 1 τ).2).2
 rw [if_neg c];clear c;by_cases c:n=106
 ·rw [if_pos c];exact zdE (by decide) z g0 e e a0 l0 e2 b0 (zdt f)
 rw [if_neg c];clear c;by_cases c:n=108
 ·rw [if_pos c]
  exact zdE (by decide) z g0 e e a0 (by have h1:=(zee H ((zi 4 τ).1+1) (zi 4 τ).2).1;have h2:=n4 τ;exact zzY h1 (by omega)) e2 b0 (zee H ((zi 4 τ).1+1) (zi 4 τ).2).2
 rw [if_neg c];clear c;by_cases c:n=109
 ·rw [if_pos c]
  have h:=tk (zi 4 τ).1 (zi 4 τ).2 (n4 τ);exact zdE (by decide) z g0 e e a0 l0 h (by constructor<;>omega) (zdt f)
 rw [if_neg c];clear c;by_cases c:n=77
 ·rw [if_pos c]
  have h:=tk (zi 4 τ).1 (zi 1 (zi 4 τ).2).2 (n4 τ);have h2:=n1 (zi 4 τ).2;exact zdE (by decide) z g0 e e a0 l0 h (by constructor<;>omega) (zdt f)
 rw [if_neg c];clear c;by_cases c:n=88
 ·exact zz148
 rw [if_neg c];clear c;by_cases c:n=90
 ·exact zz148
 rw [if_neg c];clear c;by_cases c:n=113
 ·rw [if_pos c];exact zdE (by decide) z g0 (zeQ _) (zeQ _) (a1 _) l0 e2 b0 (zdt f)
 rw [if_neg c];clear c;by_cases c:n=112
 ·rw [if_pos c]
  exact zdE (by decide) (zir (n2 _)) (g4 _) (zeQ _) e (a1 _) (zzY (zee H _ _).1 (by have:=n1 (zi 2 (zi 1 τ).2).2;omega)) e2 b0 (zee H _ _).2
 rw [if_neg c];exact zdE (by decide) z g0 e e a0 l0 e2 b0 (zdt f)
theorem zhQ: ∀(f:Nat) (σ:RS),OkF (f+1) (zt f σ).1
 |0,σ=>⟨⟨zet,zet,zet,by show(0:Nat)<=_;omega,by show(0:Nat)<=_;omega,zet,by show(0:Nat)<=_;omega,by show(0:Nat)<=_;omega,zet⟩,fun x hx=>absurd hx (by simp [zt,tmK,Tm.items])⟩
 |f+1,σ=>zrp (zhQ f) _ _ _
def zgb (l:List UInt8):Option (Tm × List UInt8):=
 if(zt 2000 ⟨l,2000,false⟩).2.bad=false/\zD 2001 (zt 2000 ⟨l,2000,false⟩).1=true/\zV 2001 (zt 2000 ⟨l,2000,false⟩).1++(zt 2000 ⟨l,2000,false⟩).2.l=l then some ((zt 2000 ⟨l,2000,false⟩).1,(zt 2000 ⟨l,2000,false⟩).2.l)else none
theorem zqe (l:List UInt8) (hl:l.length<=maxLen):zgb l=zcd l:=by
 unfold zgb
 cases h:zcd l with
 |none=>
  refine if_neg ?_;rintro⟨h1,h2,h3⟩;obtain⟨v1,v2,v3⟩:=zlT h2;have:=zlO v1 (v3 (zhQ 2000 _)) (zt 2000 ⟨l,2000,false⟩).2.l;rw [v2,h3,h]at this;exact absurd this (by simp)
 |some x=>
  obtain⟨t,l'⟩:=x;obtain⟨e1,e2,e3⟩:=zhY h hl;unfold zcd at h;obtain⟨y,hy,h⟩:=zzO.1 h;split at h
  rotate_left
  ·exact zz69
  simp only [zzX1]at h;have hr:=zj9 2000 2000 (zzL _) 0 l y.1.1 y.1.2 y.2 hy;rw [h.1,h.2]at hr;have hr2:zt 2000 ⟨l,2000,false⟩=(t,⟨l',2000-(y.1.2:Int),false⟩):=hr;rw [hr2]
  have hv:zD 2001 t=true/\zV 2001 t=zV 2000 t:=by
   have hw:=e2;unfold zD at hw ⊢;rw [Bool.and_eq_true,decide_eq_true_eq]at hw;have hn:=zep 2000 t hw.1;obtain⟨a1,a2,a3,a4,a5⟩:=zix 2000 2001 t hw.1 (by omega);refine⟨?_,?_⟩
   ·rw [Bool.and_eq_true,decide_eq_true_eq]
    first|exact⟨a1,by omega⟩|(simp_all;done)
   ·first|exact a2|exact a3|exact a4|assumption
  exact if_pos ⟨rfl,hv.1,by rw [hv.2];exact e1.symm⟩
structure GIs (X Z:Nat) (xc rc:Array Value) (W0 wx:World):Prop where
 xb:wx.heap[X]?=some (.cells xc 64 (0,0))
 rb:wx.heap[Z]?=some (.cells rc 133 (0,0))
 bel:Below W0.heap.size W0 wx
theorem GIs.below {X Z:Nat} {xc rc:Array Value} {W0 wx wy:World} (h:GIs X Z xc rc W0 wx) (hb:Below wx.heap.size wx wy):GIs X Z xc rc W0 wy:=
 ⟨(hb.block X (zc h.xb)).trans h.xb,(hb.block Z (zc h.rb)).trans h.rb,ze h.bel hb⟩
theorem zbV {w:World} {B:Nat} {T:TypeId} {v0 v1 v2 v3 v4 v5 v6 v7 v8 v9:Value} (h:w.heap[B]?=some (.cells #[v0,v1,v2,v3,v4,v5,v6,v7,v8,v9] T (0,0))):
  w.cell? ⟨B,0,none⟩=some v0/\w.cell? ⟨B,1,none⟩=some v1/\w.cell? ⟨B,2,none⟩=some v2/\w.cell? ⟨B,3,none⟩=some v3/\w.cell? ⟨B,4,none⟩=some v4/\w.cell? ⟨B,5,none⟩=some v5/\w.cell? ⟨B,6,none⟩=some v6/\w.cell? ⟨B,7,none⟩=some v7/\w.cell? ⟨B,8,none⟩=some v8/\w.cell? ⟨B,9,none⟩=some v9:=by
 have hc:=fun j=>zzq2 w B j _ _ _ h
 exact⟨hc 0,hc 1,hc 2,hc 3,hc 4,hc 5,hc 6,hc 7,hc 8,hc 9⟩
theorem znV {l:List RArg} {k:Nat} (h:k<l.length):zda (l.drop k)=zb0 l[k]++zda (l.drop (k+1)):=by
 unfold zda;rw [List.drop_eq_getElem_cons h];rfl
theorem zk5 {l:List RCase} {k:Nat} (h:k<l.length):zbm (l.drop k)=(zg l[k].lit.toNat++zg l[k].to.toNat)++zbm (l.drop (k+1)):=by
 unfold zbm;rw [List.drop_eq_getElem_cons h];rfl
theorem zlS {l:List RSeg} {k:Nat} (h:k<l.length):zbj (l.drop k)=(zg l[k].type.toNat++(zb0 l[k].val++(zb0 l[k].size++zdB l[k].little)))++zbj (l.drop (k+1)):=by
 unfold zbj;rw [List.drop_eq_getElem_cons h];rfl
theorem zkp (x:RIns) (so co go:Option Addr) (sc cc gc:Nat) (w:World) (hsrc:SlAt w 2 zdj so x.src) (hcs:SlAt w 2 zcR co x.cases) (hsg:SlAt w 6 zdk go x.segs) (hop:1<=x.op/\x.op<=40) (hw:WIns (zw x.op).1.toNat x):
  Calls Tryz.prog 55 #[.agg (zzi x so sc co cc go gc)] w fun e w'=>e= .returned (.string ⟨(zeo (zw x.op).1.toNat x).toArray⟩)/\Below w.heap.size w w':=by
 unfold zzi;have hro:=fun wx=>zgH x.op wx
 rw [zhn hop]at hro;simp only [RRow.val]at hro;have HW:=zzH hw;have HE:=zzH (zio (zw x.op).1.toNat x);have hop0:=hw.op0;have hop1:=hw.op1;have hn0:=hw.n0;have hn1:=hw.n1;have hto0:=hw.to0;have hto1:=hw.to1;have hlv0:=hw.live0;have hlv1:=hw.live1;have hl1:=hw.srcLen;have hl2:=hw.casesLen;have hl3:=hw.segsLen;have hl4:=hw.name;have HDST:=zzH hw.dst;have HSR0:=zzH hsrc;have HCA0:=zzH hcs;have HSG0:=zzH hsg;clear hw hsrc hcs hsg hop;generalize zeo (zw x.op).1.toNat x=WW at *;generalize zm (zw x.op).1.toNat 1=q1 at *;generalize zm (zw x.op).1.toNat 2=q2 at *;generalize zm (zw x.op).1.toNat 4=q4 at *;generalize zm (zw x.op).1.toNat 8=q8 at *;generalize zm (zw x.op).1.toNat 16=q16 at *;generalize zm (zw x.op).1.toNat 32=q32 at *;generalize zm (zw x.op).1.toNat 64=q64 at *;generalize zm (zw x.op).1.toNat 128=q128 at *;generalize(zw x.op).2.1=rlo at *;generalize(zw x.op).2.2=rhi at *;generalize zc5 x.op=qk at *;have hxb:=heap_alloc_new w (.cells #[.int .i64 x.op,.int .i64 x.dst.kind,.int .i64 x.dst.n,.slice so x.src.length sc,.int .i64 x.to,.int .i64 x.n,.int .i64 x.live,.string x.name,.slice co x.cases.length cc,.slice go x.segs.length gc] 64);have hba:Below w.heap.size w (w.alloc (.cells (zzi x so sc co cc go gc) 64)):=(zzR _ _).alloc (zzL _) _;have HSR:=zzH (HSR0.out.mono hba fun _ _ h=>h);have HCA:=zzH (HCA0.out.mono hba fun _ _ h=>h);have HSG:=zzH (HSG0.out.mono hba fun _ _ h=>h);clear HSR0 HCA0 HSG0;go_in;go_upto_region 1 with fail;generalize w.alloc (.cells (zzi x so sc co cc go gc) 64)=W0 at *;generalize hXz:w.heap.size=X at *;have HXZ:=zzH hXz;have HBA:=zzH hba;have HXB:=zzH hxb;clear hXz hba;have HFIN:Hid (∀wx,Below W0.heap.size W0 wx->Below X w wx):=zzH (fun wx hh=>HBA.out.trans (hh.mono (by have:=HBA.out.size;have:=HXZ.out;omega)));obtain⟨c0,c1,c2,c3,c4,c5,c6,c7,c8,c9⟩:=zbV hxb;have hlx:=zc hxb;clear hxb;go_wp2_with fail;refine(hro _).mono ?_;rintro e w1 ⟨rfl,hb1⟩;have hxb1:=(hb1.block X hlx).trans HXB.out;have hr1:=heap_alloc_new w1 (.cells #[.bool q1,.bool q2,.bool q4,.bool q8,.bool q16,.bool q32,.bool q64,.bool q128,.int .i64 rlo,.int .i64 rhi] 133);have hrb1:Below w1.heap.size w1 (w1.alloc (.cells #[.bool q1,.bool q2,.bool q4,.bool q8,.bool q16,.bool q32,.bool q64,.bool q128,.int .i64 rlo,.int .i64 rhi] 133)):=(zzR _ _).alloc (zzL _) _;have HS:Hid (GIs X w1.heap.size #[.int .i64 x.op,.int .i64 x.dst.kind,.int .i64 x.dst.n,.slice so x.src.length sc,.int .i64 x.to,.int .i64 x.n,.int .i64 x.live,.string x.name,.slice co x.cases.length cc,.slice go x.segs.length gc] #[.bool q1,.bool q2,.bool q4,.bool q8,.bool q16,.bool q32,.bool q64,.bool q128,.int .i64 rlo,.int .i64 rhi] W0 (w1.alloc (.cells #[.bool q1,.bool q2,.bool q4,.bool q8,.bool q16,.bool q32,.bool q64,.bool q128,.int .i64 rlo,.int .i64 rhi] 133))):=zzH ⟨(hrb1.block X (zc hxb1)).trans hxb1,hr1,ze hb1 hrb1⟩;clear hb1 hxb1 hr1 hrb1 hro c0 c1 c2 c3 c4 c5 c6 c7 c8 c9 hlx HXB;go_upto_region 2 with fail;generalize w1.alloc (.cells #[.bool q1,.bool q2,.bool q4,.bool q8,.bool q16,.bool q32,.bool q64,.bool q128,.int .i64 rlo,.int .i64 rhi] 133)=W1 at *;generalize w1.heap.size=Z at *;obtain⟨c0,c1,c2,c3,c4,c5,c6,c7,c8,c9⟩:=zbV HS.out.xb;obtain⟨r0,r1,r2,r3,r4,r5,r6,r7,r8,r9⟩:=zbV HS.out.rb;have hlx:=zc HS.out.xb;have hlz:=zc HS.out.rb;have h0:=fun wx=>zbN x.op wx hop0 (by omega)
 have hvl:=zE x.op.toNat;go_wp2_with fail;refine(h0 _).mono ?_;rintro e w2 ⟨rfl,hb⟩;have HV:Hid (WW=zg x.op.toNat++(opt q1 (zb0 x.dst)++(opt q2 (zg x.src.length++zda x.src)++(opt q4 (zg x.n.toNat)++(opt q8 (zJ x.name)++(opt q16 (zg x.cases.length++zbm x.cases)++(opt q32 (zg x.segs.length++zbj x.segs)++(opt q64 (zg x.to.toNat)++(opt q128 (zg x.live.toNat)++([]:List UInt8)))))))))):=zzH HE.out;have hp:(zg x.op.toNat).length<=10:=hvl;have HS:=zzH (HS.out.below hb);clear hb h0 hvl HE;generalize zg x.op.toNat=p at *;clear c0 c1 c2 c3 c4 c5 c6 c7 c8 c9 r0 r1 r2 r3 r4 r5 r6 r7 r8 r9 hlx hlz;obtain⟨c0,c1,c2,c3,c4,c5,c6,c7,c8,c9⟩:=zbV HS.out.xb;obtain⟨r0,r1,r2,r3,r4,r5,r6,r7,r8,r9⟩:=zbV HS.out.rb;have hlx:=zc HS.out.xb;have hlz:=zc HS.out.rb;go_upto_if 20 with fail;go_cut [5] (fun s wx=> ∃p:List UInt8,s= .string ⟨p.toArray⟩/\Hid (WW=p++(opt q2 (zg x.src.length++zda x.src)++(opt q4 (zg x.n.toNat)++(opt q8 (zJ x.name)++(opt q16 (zg x.cases.length++zbm x.cases)++(opt q32 (zg x.segs.length++zbj x.segs)++(opt q64 (zg x.to.toNat)++(opt q128 (zg x.live.toNat)++([]:List UInt8)))))))))/\p.length<=20/\Hid (GIs X Z #[.int .i64 x.op,.int .i64 x.dst.kind,.int .i64 x.dst.n,.slice so x.src.length sc,.int .i64 x.to,.int .i64 x.n,.int .i64 x.live,.string x.name,.slice co x.cases.length cc,.slice go x.segs.length gc] #[.bool q1,.bool q2,.bool q4,.bool q8,.bool q16,.bool q32,.bool q64,.bool q128,.int .i64 rlo,.int .i64 rhi] W0 wx))
 case first=>
  cases q1 with
  |false=>
   have HV2:Hid (WW=p++(opt q2 (zg x.src.length++zda x.src)++(opt q4 (zg x.n.toNat)++(opt q8 (zJ x.name)++(opt q16 (zg x.cases.length++zbm x.cases)++(opt q32 (zg x.segs.length++zbj x.segs)++(opt q64 (zg x.to.toNat)++(opt q128 (zg x.live.toNat)++([]:List UInt8))))))))):=zzH HV.out;exact zz176
  |true=>
   have hA:=zc4 x.dst;have hadd:=fun wx=>run_string_add_sum (P:=Tryz.prog) wx ⟨p.toArray⟩ ⟨(zb0 x.dst).toArray⟩ (by rw [bsz,bsz];omega)
   go_wp2_with fail;refine(zfz x.dst _ (HDST.out (by trivial))).mono ?_;rintro e w11 ⟨rfl,hb⟩;have HS:=zzH (HS.out.below hb);clear hb;have HV2:Hid (WW=(p++zb0 x.dst)++(opt q2 (zg x.src.length++zda x.src)++(opt q4 (zg x.n.toNat)++(opt q8 (zJ x.name)++(opt q16 (zg x.cases.length++zbm x.cases)++(opt q32 (zg x.segs.length++zbj x.segs)++(opt q64 (zg x.to.toNat)++(opt q128 (zg x.live.toNat)++([]:List UInt8))))))))):=zzH (by rw [HV.out,zzq4];rfl);clear c0 c1 c2 c3 c4 c5 c6 c7 c8 c9 r0 r1 r2 r3 r4 r5 r6 r7 r8 r9 hlx hlz;go_wp2_with fail;go_meet
   case rel=>exact⟨p++zb0 x.dst,congrArg Value.string (zF _ _),HV2,by rw [zzq1];omega,HS⟩
 case rest=>
  obtain⟨p,rfl,HV,hp,HS⟩:=hcut;clear c0 c1 c2 c3 c4 c5 c6 c7 c8 c9 r0 r1 r2 r3 r4 r5 r6 r7 r8 r9 hlx hlz;obtain⟨c0,c1,c2,c3,c4,c5,c6,c7,c8,c9⟩:=zbV HS.out.xb;obtain⟨r0,r1,r2,r3,r4,r5,r6,r7,r8,r9⟩:=zbV HS.out.rb;have hlx:=zc HS.out.xb;have hlz:=zc HS.out.rb;go_upto_if 27 with fail;go_cut [5] (fun s wx=> ∃p:List UInt8,s= .string ⟨p.toArray⟩/\Hid (WW=p++(opt q4 (zg x.n.toNat)++(opt q8 (zJ x.name)++(opt q16 (zg x.cases.length++zbm x.cases)++(opt q32 (zg x.segs.length++zbj x.segs)++(opt q64 (zg x.to.toNat)++(opt q128 (zg x.live.toNat)++([]:List UInt8))))))))/\p.length<=11000/\Hid (GIs X Z #[.int .i64 x.op,.int .i64 x.dst.kind,.int .i64 x.dst.n,.slice so x.src.length sc,.int .i64 x.to,.int .i64 x.n,.int .i64 x.live,.string x.name,.slice co x.cases.length cc,.slice go x.segs.length gc] #[.bool q1,.bool q2,.bool q4,.bool q8,.bool q16,.bool q32,.bool q64,.bool q128,.int .i64 rlo,.int .i64 rhi] W0 wx))
  case first=>
   cases q2 with
   |false=>
    have HV2:Hid (WW=p++(opt q4 (zg x.n.toNat)++(opt q8 (zJ x.name)++(opt q16 (zg x.cases.length++zbm x.cases)++(opt q32 (zg x.segs.length++zbj x.segs)++(opt q64 (zg x.to.toNat)++(opt q128 (zg x.live.toNat)++([]:List UInt8)))))))):=zzH HV.out;exact zz176
   |true=>
    have hA:=zE x.src.length;have hadd:=fun wx=>run_string_add_sum (P:=Tryz.prog) wx ⟨p.toArray⟩ ⟨(zg x.src.length).toArray⟩ (by rw [bsz,bsz];omega)
    go_wp2_with fail;refine(zcV 9 x.src.length _ (by omega) (by omega)).mono ?_;rintro e w12 ⟨rfl,hb⟩;have HS:=zzH (HS.out.below hb);clear hb;have HV2:Hid (WW=(p++zg x.src.length)++(zda (x.src.drop 0)++(opt q4 (zg x.n.toNat)++(opt q8 (zJ x.name)++(opt q16 (zg x.cases.length++zbm x.cases)++(opt q32 (zg x.segs.length++zbj x.segs)++(opt q64 (zg x.to.toNat)++(opt q128 (zg x.live.toNat)++([]:List UInt8))))))))):=zzH (by rw [HV.out,zzq4];show p++((zg x.src.length++zda x.src)++_)=_;rw [zzq4];rfl);clear c0 c1 c2 c3 c4 c5 c6 c7 c8 c9 r0 r1 r2 r3 r4 r5 r6 r7 r8 r9 hlx hlz;obtain⟨c0,c1,c2,c3,c4,c5,c6,c7,c8,c9⟩:=zbV HS.out.xb;obtain⟨r0,r1,r2,r3,r4,r5,r6,r7,r8,r9⟩:=zbV HS.out.rb;have hlx:=zc HS.out.xb;have hlz:=zc HS.out.rb;go_wp2_with fail;go_loopw [5,6] (fun s iv wr=> ∃(k:Nat) (p2:List UInt8),k<=x.src.length/\iv= .int .i64 k/\s= .string ⟨p2.toArray⟩/\Hid (WW=p2++(zda (x.src.drop k)++(opt q4 (zg x.n.toNat)++(opt q8 (zJ x.name)++(opt q16 (zg x.cases.length++zbm x.cases)++(opt q32 (zg x.segs.length++zbj x.segs)++(opt q64 (zg x.to.toNat)++(opt q128 (zg x.live.toNat)++([]:List UInt8)))))))))/\p2.length<=30+10*k/\Hid (GIs X Z #[.int .i64 x.op,.int .i64 x.dst.kind,.int .i64 x.dst.n,.slice so x.src.length sc,.int .i64 x.to,.int .i64 x.n,.int .i64 x.live,.string x.name,.slice co x.cases.length cc,.slice go x.segs.length gc] #[.bool q1,.bool true,.bool q4,.bool q8,.bool q16,.bool q32,.bool q64,.bool q128,.int .i64 rlo,.int .i64 rhi] W0 wr)) (fun s iv wr=>x.src.length-(intOf iv).toNat)
    case atStart=>exact⟨0,p++zg x.src.length,zzZ _,rfl,congrArg Value.string (zF _ _),HV2,by rw [zzq1];omega,HS⟩
    case round=>
     obtain⟨k,p2,hk,rfl,rfl,HV3,hp2,HS⟩:=hrel;rename World=>wr
     clear hadd;clear c0 c1 c2 c3 c4 c5 c6 c7 c8 c9 r0 r1 r2 r3 r4 r5 r6 r7 r8 r9 hlx hlz;obtain⟨c0,c1,c2,c3,c4,c5,c6,c7,c8,c9⟩:=zbV HS.out.xb;obtain⟨r0,r1,r2,r3,r4,r5,r6,r7,r8,r9⟩:=zbV HS.out.rb;have hlx:=zc HS.out.xb;have hlz:=zc HS.out.rb;by_cases hlt:k<x.src.length
     ·obtain⟨b1,off1,hao,hb1,s0,s1,t0,t1⟩:=(HSR.out.mono HS.out.bel fun _ _ h=>h).arg hlt
      subst hao;have hwa:=HW.out.src _ (List.getElem_mem hlt);have HC:=zzH (fun wx=>zfz x.src[k] wx hwa);have HV4:Hid (WW=(p2++zb0 x.src[k])++(zda (x.src.drop (k+1))++(opt q4 (zg x.n.toNat)++(opt q8 (zJ x.name)++(opt q16 (zg x.cases.length++zbm x.cases)++(opt q32 (zg x.segs.length++zbj x.segs)++(opt q64 (zg x.to.toNat)++(opt q128 (zg x.live.toNat)++([]:List UInt8))))))))):=zzH (by rw [HV3.out,znV hlt];simp only [zzq4]);have hA2:=zc4 x.src[k];clear hwa t0 t1;generalize zb0 x.src[k]=A at *;generalize x.src[k]=u at *;have hadd:=fun wx=>run_string_add_sum (P:=Tryz.prog) wx ⟨p2.toArray⟩ ⟨A.toArray⟩ (by rw [bsz,bsz];omega)
      go_wp2_with fail;refine(HC.out _).mono ?_;rintro e w13 ⟨rfl,hb⟩;have HS:=zzH (HS.out.below hb);clear hb c0 c1 c2 c3 c4 c5 c6 c7 c8 c9 r0 r1 r2 r3 r4 r5 r6 r7 r8 r9 hlx hlz;go_wp2_with fail;go_roundw
      case rel=>exact⟨k+1,p2++A,by omega,by go_num,congrArg Value.string (zF _ _),HV4,by rw [zzq1];omega,HS⟩
      case measure=>simp [intOf];omega
     ·have HV4:Hid (WW=p2++(opt q4 (zg x.n.toNat)++(opt q8 (zJ x.name)++(opt q16 (zg x.cases.length++zbm x.cases)++(opt q32 (zg x.segs.length++zbj x.segs)++(opt q64 (zg x.to.toNat)++(opt q128 (zg x.live.toNat)++([]:List UInt8)))))))):=zzH (by rw [HV3.out,zzq6 (by omega)];rfl)
      exact zz175
  case rest=>
   obtain⟨p,rfl,HV,hp,HS⟩:=hcut;clear c0 c1 c2 c3 c4 c5 c6 c7 c8 c9 r0 r1 r2 r3 r4 r5 r6 r7 r8 r9 hlx hlz;obtain⟨c0,c1,c2,c3,c4,c5,c6,c7,c8,c9⟩:=zbV HS.out.xb;obtain⟨r0,r1,r2,r3,r4,r5,r6,r7,r8,r9⟩:=zbV HS.out.rb;have hlx:=zc HS.out.xb;have hlz:=zc HS.out.rb;go_upto_if 50 with fail;go_cut [5] (fun s wx=> ∃p:List UInt8,s= .string ⟨p.toArray⟩/\Hid (WW=p++(opt q8 (zJ x.name)++(opt q16 (zg x.cases.length++zbm x.cases)++(opt q32 (zg x.segs.length++zbj x.segs)++(opt q64 (zg x.to.toNat)++(opt q128 (zg x.live.toNat)++([]:List UInt8)))))))/\p.length<=11010/\Hid (GIs X Z #[.int .i64 x.op,.int .i64 x.dst.kind,.int .i64 x.dst.n,.slice so x.src.length sc,.int .i64 x.to,.int .i64 x.n,.int .i64 x.live,.string x.name,.slice co x.cases.length cc,.slice go x.segs.length gc] #[.bool q1,.bool q2,.bool q4,.bool q8,.bool q16,.bool q32,.bool q64,.bool q128,.int .i64 rlo,.int .i64 rhi] W0 wx))
   case first=>
    cases q4 with
    |false=>
     have HV2:Hid (WW=p++(opt q8 (zJ x.name)++(opt q16 (zg x.cases.length++zbm x.cases)++(opt q32 (zg x.segs.length++zbj x.segs)++(opt q64 (zg x.to.toNat)++(opt q128 (zg x.live.toNat)++([]:List UInt8))))))):=zzH HV.out;exact zz176
    |true=>
     have hA:=zE x.n.toNat;have hadd:=fun wx=>run_string_add_sum (P:=Tryz.prog) wx ⟨p.toArray⟩ ⟨(zg x.n.toNat).toArray⟩ (by rw [bsz,bsz];omega)
     go_wp2_with fail;refine(zbN x.n _ hn0 (by omega)).mono ?_;rintro e w14 ⟨rfl,hb⟩;have HS:=zzH (HS.out.below hb);clear hb;have HV2:Hid (WW=(p++zg x.n.toNat)++(opt q8 (zJ x.name)++(opt q16 (zg x.cases.length++zbm x.cases)++(opt q32 (zg x.segs.length++zbj x.segs)++(opt q64 (zg x.to.toNat)++(opt q128 (zg x.live.toNat)++([]:List UInt8))))))):=zzH (by rw [HV.out,zzq4];rfl);clear c0 c1 c2 c3 c4 c5 c6 c7 c8 c9 r0 r1 r2 r3 r4 r5 r6 r7 r8 r9 hlx hlz;go_wp2_with fail;go_meet
     case rel=>exact⟨p++zg x.n.toNat,congrArg Value.string (zF _ _),HV2,by rw [zzq1];omega,HS⟩
   case rest=>
    obtain⟨p,rfl,HV,hp,HS⟩:=hcut;clear c0 c1 c2 c3 c4 c5 c6 c7 c8 c9 r0 r1 r2 r3 r4 r5 r6 r7 r8 r9 hlx hlz;obtain⟨c0,c1,c2,c3,c4,c5,c6,c7,c8,c9⟩:=zbV HS.out.xb;obtain⟨r0,r1,r2,r3,r4,r5,r6,r7,r8,r9⟩:=zbV HS.out.rb;have hlx:=zc HS.out.xb;have hlz:=zc HS.out.rb;go_upto_if 57 with fail;go_cut [5] (fun s wx=> ∃p:List UInt8,s= .string ⟨p.toArray⟩/\Hid (WW=p++(opt q16 (zg x.cases.length++zbm x.cases)++(opt q32 (zg x.segs.length++zbj x.segs)++(opt q64 (zg x.to.toNat)++(opt q128 (zg x.live.toNat)++([]:List UInt8))))))/\p.length<=13000/\Hid (GIs X Z #[.int .i64 x.op,.int .i64 x.dst.kind,.int .i64 x.dst.n,.slice so x.src.length sc,.int .i64 x.to,.int .i64 x.n,.int .i64 x.live,.string x.name,.slice co x.cases.length cc,.slice go x.segs.length gc] #[.bool q1,.bool q2,.bool q4,.bool q8,.bool q16,.bool q32,.bool q64,.bool q128,.int .i64 rlo,.int .i64 rhi] W0 wx))
    case first=>
     cases q8 with
     |false=>
      have HV2:Hid (WW=p++(opt q16 (zg x.cases.length++zbm x.cases)++(opt q32 (zg x.segs.length++zbj x.segs)++(opt q64 (zg x.to.toNat)++(opt q128 (zg x.live.toNat)++([]:List UInt8)))))):=zzH HV.out;exact zz176
     |true=>
      have hA:=zdo x.name;have hadd:=fun wx=>run_string_add_sum (P:=Tryz.prog) wx ⟨p.toArray⟩ ⟨(zJ x.name).toArray⟩ (by rw [bsz,bsz];omega)
      go_wp2_with fail;refine(zfe x.name _ (by omega)).mono ?_;rintro e w15 ⟨rfl,hb⟩;have HS:=zzH (HS.out.below hb);clear hb;have HV2:Hid (WW=(p++zJ x.name)++(opt q16 (zg x.cases.length++zbm x.cases)++(opt q32 (zg x.segs.length++zbj x.segs)++(opt q64 (zg x.to.toNat)++(opt q128 (zg x.live.toNat)++([]:List UInt8)))))):=zzH (by rw [HV.out,zzq4];rfl);clear c0 c1 c2 c3 c4 c5 c6 c7 c8 c9 r0 r1 r2 r3 r4 r5 r6 r7 r8 r9 hlx hlz;go_wp2_with fail;go_meet
      case rel=>exact⟨p++zJ x.name,congrArg Value.string (zF _ _),HV2,by rw [zzq1];omega,HS⟩
    case rest=>
     obtain⟨p,rfl,HV,hp,HS⟩:=hcut;clear c0 c1 c2 c3 c4 c5 c6 c7 c8 c9 r0 r1 r2 r3 r4 r5 r6 r7 r8 r9 hlx hlz;obtain⟨c0,c1,c2,c3,c4,c5,c6,c7,c8,c9⟩:=zbV HS.out.xb;obtain⟨r0,r1,r2,r3,r4,r5,r6,r7,r8,r9⟩:=zbV HS.out.rb;have hlx:=zc HS.out.xb;have hlz:=zc HS.out.rb;go_upto_if 64 with fail;go_cut [5] (fun s wx=> ∃p:List UInt8,s= .string ⟨p.toArray⟩/\Hid (WW=p++(opt q32 (zg x.segs.length++zbj x.segs)++(opt q64 (zg x.to.toNat)++(opt q128 (zg x.live.toNat)++([]:List UInt8)))))/\p.length<=34000/\Hid (GIs X Z #[.int .i64 x.op,.int .i64 x.dst.kind,.int .i64 x.dst.n,.slice so x.src.length sc,.int .i64 x.to,.int .i64 x.n,.int .i64 x.live,.string x.name,.slice co x.cases.length cc,.slice go x.segs.length gc] #[.bool q1,.bool q2,.bool q4,.bool q8,.bool q16,.bool q32,.bool q64,.bool q128,.int .i64 rlo,.int .i64 rhi] W0 wx))
     case first=>
      cases q16 with
      |false=>
       have HV2:Hid (WW=p++(opt q32 (zg x.segs.length++zbj x.segs)++(opt q64 (zg x.to.toNat)++(opt q128 (zg x.live.toNat)++([]:List UInt8))))):=zzH HV.out;exact zz176
      |true=>
       have hA:=zE x.cases.length;have hadd:=fun wx=>run_string_add_sum (P:=Tryz.prog) wx ⟨p.toArray⟩ ⟨(zg x.cases.length).toArray⟩ (by rw [bsz,bsz];omega)
       go_wp2_with fail;refine(zcV 9 x.cases.length _ (by omega) (by omega)).mono ?_;rintro e w16 ⟨rfl,hb⟩;have HS:=zzH (HS.out.below hb);clear hb;have HV2:Hid (WW=(p++zg x.cases.length)++(zbm (x.cases.drop 0)++(opt q32 (zg x.segs.length++zbj x.segs)++(opt q64 (zg x.to.toNat)++(opt q128 (zg x.live.toNat)++([]:List UInt8)))))):=zzH (by rw [HV.out,zzq4];show p++((zg x.cases.length++zbm x.cases)++_)=_;rw [zzq4];rfl);clear c0 c1 c2 c3 c4 c5 c6 c7 c8 c9 r0 r1 r2 r3 r4 r5 r6 r7 r8 r9 hlx hlz;obtain⟨c0,c1,c2,c3,c4,c5,c6,c7,c8,c9⟩:=zbV HS.out.xb;obtain⟨r0,r1,r2,r3,r4,r5,r6,r7,r8,r9⟩:=zbV HS.out.rb;have hlx:=zc HS.out.xb;have hlz:=zc HS.out.rb;go_wp2_with fail;go_loopw [5,7] (fun s iv wr=> ∃(k:Nat) (p2:List UInt8),k<=x.cases.length/\iv= .int .i64 k/\s= .string ⟨p2.toArray⟩/\Hid (WW=p2++(zbm (x.cases.drop k)++(opt q32 (zg x.segs.length++zbj x.segs)++(opt q64 (zg x.to.toNat)++(opt q128 (zg x.live.toNat)++([]:List UInt8))))))/\p2.length<=13010+20*k/\Hid (GIs X Z #[.int .i64 x.op,.int .i64 x.dst.kind,.int .i64 x.dst.n,.slice so x.src.length sc,.int .i64 x.to,.int .i64 x.n,.int .i64 x.live,.string x.name,.slice co x.cases.length cc,.slice go x.segs.length gc] #[.bool q1,.bool q2,.bool q4,.bool q8,.bool true,.bool q32,.bool q64,.bool q128,.int .i64 rlo,.int .i64 rhi] W0 wr)) (fun s iv wr=>x.cases.length-(intOf iv).toNat)
       case atStart=>exact⟨0,p++zg x.cases.length,zzZ _,rfl,congrArg Value.string (zF _ _),HV2,by rw [zzq1];omega,HS⟩
       case round=>
        obtain⟨k,p2,hk,rfl,rfl,HV3,hp2,HS⟩:=hrel;rename World=>wr
        clear hadd;clear c0 c1 c2 c3 c4 c5 c6 c7 c8 c9 r0 r1 r2 r3 r4 r5 r6 r7 r8 r9 hlx hlz;obtain⟨c0,c1,c2,c3,c4,c5,c6,c7,c8,c9⟩:=zbV HS.out.xb;obtain⟨r0,r1,r2,r3,r4,r5,r6,r7,r8,r9⟩:=zbV HS.out.rb;have hlx:=zc HS.out.xb;have hlz:=zc HS.out.rb;by_cases hlt:k<x.cases.length
        ·obtain⟨b1,off1,hao,hb1,s0,s1,t0,t1⟩:=(HCA.out.mono HS.out.bel fun _ _ h=>h).case hlt
         subst hao;obtain⟨z0,z1,z2,z3⟩:=HW.out.cases _ (List.getElem_mem hlt);have h1:=fun wx=>zbN x.cases[k].lit wx z0 (by omega)
         have h2:=fun wx=>zbN x.cases[k].to wx z2 (by omega)
         have HV4:Hid (WW=((p2++zg x.cases[k].lit.toNat)++zg x.cases[k].to.toNat)++(zbm (x.cases.drop (k+1))++(opt q32 (zg x.segs.length++zbj x.segs)++(opt q64 (zg x.to.toNat)++(opt q128 (zg x.live.toNat)++([]:List UInt8)))))):=zzH (by rw [HV3.out,zk5 hlt];simp only [zzq4]);have hA1:=zE x.cases[k].lit.toNat;have hA2:=zE x.cases[k].to.toNat;clear z0 z1 z2 z3 t0 t1;generalize zg x.cases[k].lit.toNat=A1 at *;generalize zg x.cases[k].to.toNat=A2 at *;generalize x.cases[k].lit=u1 at *;generalize x.cases[k].to=u2 at *;have hadd:=fun wx=>run_string_add_sum (P:=Tryz.prog) wx ⟨p2.toArray⟩ ⟨A1.toArray⟩ (by rw [bsz,bsz];omega)
         have hadd2:=fun wx=>run_string_add_sum (P:=Tryz.prog) wx (⟨p2.toArray⟩++⟨A1.toArray⟩) ⟨A2.toArray⟩ (by rw [zF,bsz,bsz,zzq1];omega)
         have HBr:=zzH ((zzR wr.heap.size wr).drew);have HKr:=zzH (zbl HBr.out);have hk0:(0:Int)<=(k:Int):=by omega
         have hk1:(k:Int)<(x.cases.length:Int):=by omega
         go_wp2_with fail
         first|go_region_held3 (fun w'=>wr.heap.size<=w'.heap.size/\ ∀b o,b<wr.heap.size->w'.cell? ⟨b,o,none⟩=wr.cell? ⟨b,o,none⟩) (with_reducible exact HKr.out)
          ((go_at_call 52;(first|(with_reducible refine(h1 _).mono ?_)|(with_reducible refine(h2 _).mono ?_));rintro e w9 ⟨rfl,hb⟩;have HBr:=zzH (ze HBr.out hb);have HKr:=zzH (zbl HBr.out);clear hb))|fail
         all_goals
          have HS:=zzH (HS.out.below HBr.out);clear c0 c1 c2 c3 c4 c5 c6 c7 c8 c9 r0 r1 r2 r3 r4 r5 r6 r7 r8 r9 hlx hlz;go_wp2_with fail;go_roundw
          case rel=>exact⟨k+1,(p2++A1)++A2,by omega,by go_num,congrArg Value.string (by rw [zF,zF]),HV4,by rw [zzq1,zzq1];omega,HS⟩
          case measure=>simp [intOf];omega
        ·have HV4:Hid (WW=p2++(opt q32 (zg x.segs.length++zbj x.segs)++(opt q64 (zg x.to.toNat)++(opt q128 (zg x.live.toNat)++([]:List UInt8))))):=zzH (by rw [HV3.out,zzq6 (by omega)];rfl)
         exact zz175
     case rest=>
      obtain⟨p,rfl,HV,hp,HS⟩:=hcut;clear c0 c1 c2 c3 c4 c5 c6 c7 c8 c9 r0 r1 r2 r3 r4 r5 r6 r7 r8 r9 hlx hlz;obtain⟨c0,c1,c2,c3,c4,c5,c6,c7,c8,c9⟩:=zbV HS.out.xb;obtain⟨r0,r1,r2,r3,r4,r5,r6,r7,r8,r9⟩:=zbV HS.out.rb;have hlx:=zc HS.out.xb;have hlz:=zc HS.out.rb;go_upto_if 96 with fail;go_cut [5] (fun s wx=> ∃p:List UInt8,s= .string ⟨p.toArray⟩/\Hid (WW=p++(opt q64 (zg x.to.toNat)++(opt q128 (zg x.live.toNat)++([]:List UInt8))))/\p.length<=76000/\Hid (GIs X Z #[.int .i64 x.op,.int .i64 x.dst.kind,.int .i64 x.dst.n,.slice so x.src.length sc,.int .i64 x.to,.int .i64 x.n,.int .i64 x.live,.string x.name,.slice co x.cases.length cc,.slice go x.segs.length gc] #[.bool q1,.bool q2,.bool q4,.bool q8,.bool q16,.bool q32,.bool q64,.bool q128,.int .i64 rlo,.int .i64 rhi] W0 wx))
      case first=>
       cases q32 with
       |false=>
        have HV2:Hid (WW=p++(opt q64 (zg x.to.toNat)++(opt q128 (zg x.live.toNat)++([]:List UInt8)))):=zzH HV.out;exact zz176
       |true=>
        have hA:=zE x.segs.length;have hadd:=fun wx=>run_string_add_sum (P:=Tryz.prog) wx ⟨p.toArray⟩ ⟨(zg x.segs.length).toArray⟩ (by rw [bsz,bsz];omega)
        go_wp2_with fail;refine(zcV 9 x.segs.length _ (by omega) (by omega)).mono ?_;rintro e w17 ⟨rfl,hb⟩;have HS:=zzH (HS.out.below hb);clear hb;have HV2:Hid (WW=(p++zg x.segs.length)++(zbj (x.segs.drop 0)++(opt q64 (zg x.to.toNat)++(opt q128 (zg x.live.toNat)++([]:List UInt8))))):=zzH (by rw [HV.out,zzq4];show p++((zg x.segs.length++zbj x.segs)++_)=_;rw [zzq4];rfl);clear c0 c1 c2 c3 c4 c5 c6 c7 c8 c9 r0 r1 r2 r3 r4 r5 r6 r7 r8 r9 hlx hlz;obtain⟨c0,c1,c2,c3,c4,c5,c6,c7,c8,c9⟩:=zbV HS.out.xb;obtain⟨r0,r1,r2,r3,r4,r5,r6,r7,r8,r9⟩:=zbV HS.out.rb;have hlx:=zc HS.out.xb;have hlz:=zc HS.out.rb;go_wp2_with fail;go_loopw [5,8,9] (fun s iv _ wr=> ∃(k:Nat) (p2:List UInt8),k<=x.segs.length/\iv= .int .i64 k/\s= .string ⟨p2.toArray⟩/\Hid (WW=p2++(zbj (x.segs.drop k)++(opt q64 (zg x.to.toNat)++(opt q128 (zg x.live.toNat)++([]:List UInt8)))))/\p2.length<=34010+40*k/\Hid (GIs X Z #[.int .i64 x.op,.int .i64 x.dst.kind,.int .i64 x.dst.n,.slice so x.src.length sc,.int .i64 x.to,.int .i64 x.n,.int .i64 x.live,.string x.name,.slice co x.cases.length cc,.slice go x.segs.length gc] #[.bool q1,.bool q2,.bool q4,.bool q8,.bool q16,.bool true,.bool q64,.bool q128,.int .i64 rlo,.int .i64 rhi] W0 wr)) (fun s iv _ wr=>x.segs.length-(intOf iv).toNat)
        case atStart=>exact⟨0,p++zg x.segs.length,zzZ _,rfl,congrArg Value.string (zF _ _),HV2,by rw [zzq1];omega,HS⟩
        case round=>
         obtain⟨k,p2,hk,rfl,rfl,HV3,hp2,HS⟩:=hrel;rename World=>wr
         clear hadd;clear c0 c1 c2 c3 c4 c5 c6 c7 c8 c9 r0 r1 r2 r3 r4 r5 r6 r7 r8 r9 hlx hlz;obtain⟨c0,c1,c2,c3,c4,c5,c6,c7,c8,c9⟩:=zbV HS.out.xb;obtain⟨r0,r1,r2,r3,r4,r5,r6,r7,r8,r9⟩:=zbV HS.out.rb;have hlx:=zc HS.out.xb;have hlz:=zc HS.out.rb;by_cases hlt:k<x.segs.length
         ·obtain⟨b1,off1,hao,hb1,s0,s1,s2,s3,s4,s5,t0,t1,t2,t3,t4⟩:=(HSG.out.mono HS.out.bel fun _ _ h=>h).seg hlt
          subst hao;obtain⟨z0,z1,z2,z3⟩:=HW.out.segs _ (List.getElem_mem hlt);have h1:=fun wx=>zbN x.segs[k].type wx z0 (by omega)
          have h2:=fun wx=>zfz x.segs[k].val wx z2
          have h3:=fun wx=>zfz x.segs[k].size wx z3
          have h4:=fun wx=>zhT x.segs[k].little wx
          have HV4:Hid (WW=((((p2++zg x.segs[k].type.toNat)++zb0 x.segs[k].val)++zb0 x.segs[k].size)++zdB x.segs[k].little)++(zbj (x.segs.drop (k+1))++(opt q64 (zg x.to.toNat)++(opt q128 (zg x.live.toNat)++([]:List UInt8))))):=zzH (by rw [HV3.out,zlS hlt];simp only [zzq4]);have hA1:=zE x.segs[k].type.toNat;have hA2:=zc4 x.segs[k].val;have hA3:=zc4 x.segs[k].size;have hA4:=zfl x.segs[k].little;clear z0 z1 z2 z3 t0 t1 t2 t3 t4;generalize zg x.segs[k].type.toNat=A1 at *;generalize zb0 x.segs[k].val=A2 at *;generalize zb0 x.segs[k].size=A3 at *;generalize zdB x.segs[k].little=A4 at *;generalize x.segs[k]=g at *;obtain⟨ty,⟨vk,vn⟩,⟨sk,sn⟩,lit⟩:=g;simp only at *;have hadd:=fun wx=>run_string_add_sum (P:=Tryz.prog) wx ⟨p2.toArray⟩ ⟨A1.toArray⟩ (by rw [bsz,bsz];omega)
          have hadd2:=fun wx=>run_string_add_sum (P:=Tryz.prog) wx (⟨p2.toArray⟩++⟨A1.toArray⟩) ⟨A2.toArray⟩ (by rw [zF,bsz,bsz,zzq1];omega)
          have hadd3:=fun wx=>run_string_add_sum (P:=Tryz.prog) wx (⟨p2.toArray⟩++⟨A1.toArray⟩++⟨A2.toArray⟩) ⟨A3.toArray⟩ (by rw [zF,zF,bsz,bsz,zzq1,zzq1];omega)
          have hadd4:=fun wx=>run_string_add_sum (P:=Tryz.prog) wx (⟨p2.toArray⟩++⟨A1.toArray⟩++⟨A2.toArray⟩++⟨A3.toArray⟩) ⟨A4.toArray⟩ (by rw [zF,zF,zF,bsz,bsz,zzq1,zzq1,zzq1];omega)
          have hbx:Below wr.heap.size wr (wr.alloc (.cells #[.int .i64 ty,.int .i64 vk,.int .i64 vn,.int .i64 sk,.int .i64 sn,.bool lit] 98)):=(zzR _ _).alloc (zzL _) _;have hbr:=heap_alloc_new wr (.cells #[.int .i64 ty,.int .i64 vk,.int .i64 vn,.int .i64 sk,.int .i64 sn,.bool lit] 98);have HS:=zzH (HS.out.below hbx);clear hbx;go_upto_region 27 with fail;clear c0 c1 c2 c3 c4 c5 c6 c7 c8 c9 r0 r1 r2 r3 r4 r5 r6 r7 r8 r9 hlx hlz s0 s1 s2 s3 s4 s5;generalize wr.alloc (.cells #[.int .i64 ty,.int .i64 vk,.int .i64 vn,.int .i64 sk,.int .i64 sn,.bool lit] 98)=Wg at *;generalize wr.heap.size=G at *;obtain⟨g0,g1,g2,g3,g4,g5⟩:=zdc hbr;have hlg:=zc hbr;clear hbr;have HBr:=zzH ((zzR Wg.heap.size Wg).drew);have HKr:=zzH (zbl HBr.out)
          first|go_region_held3 (fun w'=>Wg.heap.size<=w'.heap.size/\ ∀b o,b<Wg.heap.size->w'.cell? ⟨b,o,none⟩=Wg.cell? ⟨b,o,none⟩) (with_reducible exact HKr.out)
           (first
            |(go_at_call 52;(with_reducible refine(h1 _).mono ?_);rintro e w9 ⟨rfl,hb⟩;have HBr:=zzH (ze HBr.out hb);have HKr:=zzH (zbl HBr.out);clear hb)
            |(go_at_call 81;(first|(with_reducible refine(h2 _).mono ?_)|(with_reducible refine(h3 _).mono ?_));rintro e w9 ⟨rfl,hb⟩;have HBr:=zzH (ze HBr.out hb);have HKr:=zzH (zbl HBr.out);clear hb)
            |(go_at_call 54;(with_reducible refine(h4 _).mono ?_);rintro e w9 ⟨rfl,hb⟩;have HBr:=zzH (ze HBr.out hb);have HKr:=zzH (zbl HBr.out);clear hb))|fail
          all_goals
           have HS:=zzH (HS.out.below HBr.out);clear g0 g1 g2 g3 g4 g5 hlg;go_wp2_with fail;go_roundw
           case rel=>exact⟨k+1,(((p2++A1)++A2)++A3)++A4,by omega,by go_num,congrArg Value.string (by rw [zF,zF,zF,zF]),HV4,by rw [zzq1,zzq1,zzq1,zzq1];omega,HS⟩
           case measure=>simp [intOf];omega
         ·have HV4:Hid (WW=p2++(opt q64 (zg x.to.toNat)++(opt q128 (zg x.live.toNat)++([]:List UInt8)))):=zzH (by rw [HV3.out,zzq6 (by omega)];rfl)
          exact zz175
      case rest=>
       obtain⟨p,rfl,HV,hp,HS⟩:=hcut;clear c0 c1 c2 c3 c4 c5 c6 c7 c8 c9 r0 r1 r2 r3 r4 r5 r6 r7 r8 r9 hlx hlz;obtain⟨c0,c1,c2,c3,c4,c5,c6,c7,c8,c9⟩:=zbV HS.out.xb;obtain⟨r0,r1,r2,r3,r4,r5,r6,r7,r8,r9⟩:=zbV HS.out.rb;have hlx:=zc HS.out.xb;have hlz:=zc HS.out.rb;go_upto_if 133 with fail;go_cut [5] (fun s wx=> ∃p:List UInt8,s= .string ⟨p.toArray⟩/\Hid (WW=p++(opt q128 (zg x.live.toNat)++([]:List UInt8)))/\p.length<=76010/\Hid (GIs X Z #[.int .i64 x.op,.int .i64 x.dst.kind,.int .i64 x.dst.n,.slice so x.src.length sc,.int .i64 x.to,.int .i64 x.n,.int .i64 x.live,.string x.name,.slice co x.cases.length cc,.slice go x.segs.length gc] #[.bool q1,.bool q2,.bool q4,.bool q8,.bool q16,.bool q32,.bool q64,.bool q128,.int .i64 rlo,.int .i64 rhi] W0 wx))
       case first=>
        cases q64 with
        |false=>
         have HV2:Hid (WW=p++(opt q128 (zg x.live.toNat)++([]:List UInt8))):=zzH HV.out;exact zz176
        |true=>
         have hA:=zE x.to.toNat;have hadd:=fun wx=>run_string_add_sum (P:=Tryz.prog) wx ⟨p.toArray⟩ ⟨(zg x.to.toNat).toArray⟩ (by rw [bsz,bsz];omega)
         go_wp2_with fail;refine(zbN x.to _ hto0 (by omega)).mono ?_;rintro e w18 ⟨rfl,hb⟩;have HS:=zzH (HS.out.below hb);clear hb;have HV2:Hid (WW=(p++zg x.to.toNat)++(opt q128 (zg x.live.toNat)++([]:List UInt8))):=zzH (by rw [HV.out,zzq4];rfl);clear c0 c1 c2 c3 c4 c5 c6 c7 c8 c9 r0 r1 r2 r3 r4 r5 r6 r7 r8 r9 hlx hlz;go_wp2_with fail;go_meet
         case rel=>exact⟨p++zg x.to.toNat,congrArg Value.string (zF _ _),HV2,by rw [zzq1];omega,HS⟩
       case rest=>
        obtain⟨p,rfl,HV,hp,HS⟩:=hcut;clear c0 c1 c2 c3 c4 c5 c6 c7 c8 c9 r0 r1 r2 r3 r4 r5 r6 r7 r8 r9 hlx hlz;obtain⟨c0,c1,c2,c3,c4,c5,c6,c7,c8,c9⟩:=zbV HS.out.xb;obtain⟨r0,r1,r2,r3,r4,r5,r6,r7,r8,r9⟩:=zbV HS.out.rb;have hlx:=zc HS.out.xb;have hlz:=zc HS.out.rb;go_upto_if 140 with fail;go_cut [5] (fun s wx=> ∃p:List UInt8,s= .string ⟨p.toArray⟩/\Hid (WW=p++([]:List UInt8))/\p.length<=76020/\Hid (GIs X Z #[.int .i64 x.op,.int .i64 x.dst.kind,.int .i64 x.dst.n,.slice so x.src.length sc,.int .i64 x.to,.int .i64 x.n,.int .i64 x.live,.string x.name,.slice co x.cases.length cc,.slice go x.segs.length gc] #[.bool q1,.bool q2,.bool q4,.bool q8,.bool q16,.bool q32,.bool q64,.bool q128,.int .i64 rlo,.int .i64 rhi] W0 wx))
        case first=>
         cases q128 with
         |false=>
          have HV2:Hid (WW=p++([]:List UInt8)):=zzH HV.out;exact zz176
         |true=>
          have hA:=zE x.live.toNat;have hadd:=fun wx=>run_string_add_sum (P:=Tryz.prog) wx ⟨p.toArray⟩ ⟨(zg x.live.toNat).toArray⟩ (by rw [bsz,bsz];omega)
          go_wp2_with fail;refine(zbN x.live _ hlv0 (by omega)).mono ?_;rintro e w19 ⟨rfl,hb⟩;have HS:=zzH (HS.out.below hb);clear hb;have HV2:Hid (WW=(p++zg x.live.toNat)++([]:List UInt8)):=zzH (by rw [HV.out,zzq4];rfl);clear c0 c1 c2 c3 c4 c5 c6 c7 c8 c9 r0 r1 r2 r3 r4 r5 r6 r7 r8 r9 hlx hlz;go_wp2_with fail;go_meet
          case rel=>exact⟨p++zg x.live.toNat,congrArg Value.string (zF _ _),HV2,by rw [zzq1];omega,HS⟩
        case rest=>
         obtain⟨p,rfl,HV,hp,HS⟩:=hcut;clear c0 c1 c2 c3 c4 c5 c6 c7 c8 c9 r0 r1 r2 r3 r4 r5 r6 r7 r8 r9 hlx hlz;obtain⟨c0,c1,c2,c3,c4,c5,c6,c7,c8,c9⟩:=zbV HS.out.xb;obtain⟨r0,r1,r2,r3,r4,r5,r6,r7,r8,r9⟩:=zbV HS.out.rb;have hlx:=zc HS.out.xb;have hlz:=zc HS.out.rb;have HV2:Hid (WW=p):=zzH (by rw [HV.out,List.append_nil]);go_wp2_with fail;go_ret;exact⟨congrArg (fun l:List UInt8=>Ending.returned (.string ⟨l.toArray⟩)) HV2.out.symm,by rw [HXZ.out];exact HFIN.out _ HS.out.bel⟩
end Go.Proofs.YtlaabicdhkebbaaGreatDoor
