import Derived.Test.YthajedcbgnloeaaGreatDoorW14
import Derived.Test.YthajedcbgnloeaaGreatDoorW15
namespace Go.Proofs.YthajedcbgnloeaaGreatDoor
open Go.RowKit
set_option linter.unusedVariables false
set_option linter.unusedSimpArgs false
set_option maxRecDepth 100000
set_option maxHeartbeats 0
theorem zka {s:VSt} {l:List RArg} {k:Nat} (h:k<l.length):zbs s (l.drop k)=if zb2 s l[k]≠0 then zb2 s l[k]else zbs s (l.drop (k+1)):=by
 rw [List.drop_eq_getElem_cons h];rfl
theorem znT {u:RUnit} {s:VSt} {x:RIns} (h:OpdOk u s x) (hr: ∀k,k<(zbS u x).toNat->k<=255): ∀a∈zdk u x,ArgOk u s a:=by
 intro a ha;unfold zdk at ha;rcases zzk.1 ha with ha|ha
 ·exact h.src a ha
 rcases zzk.1 ha with ha|ha
 ·have key: ∀l:List RSeg,(∀g∈l,g∈x.segs)->a∈zW l->ArgOk u s a:=by
   intro l
   induction l with
   |nil=>intro _ h;cases h
   |cons g l ih=>
    intro hl hm;unfold zW at hm;rcases List.mem_cons.1 hm with rfl|hm
    ·exact h.val g (hl g zzg)
    ·split at hm
     ·exact ih (fun g hg=>hl g (zzh _ hg)) hm
     ·rename_i hz
      rcases List.mem_cons.1 hm with rfl|hm
      ·exact h.size g (hl g zzg) hz
      ·exact ih (fun g hg=>hl g (zzh _ hg)) hm
  exact key x.segs (fun _ h=>h) ha
 ·unfold zbJ at ha
  obtain⟨k,hk,rfl⟩:=List.mem_map.1 ha;have hk:=List.mem_range.1 hk;have:=h.num;exact⟨fun _=>⟨by show(0:Int)<=(k:Int);omega,by show(k:Int)<=255;have:=hr k hk;omega⟩,fun e=>absurd (show(1:Int)=2 from e) (by decide),fun e=>absurd rfl e,by show I64 (k:Int);unfold I64;omega⟩
structure ChkOk (u:RUnit) (s:VSt) (x:RIns):Prop where
 opd:OpdOk u s x
 args: ∀k,k<(zbS u x).toNat->k<=255
 st:StOk s
 src:x.op=5\/x.op=6\/x.op=7->0<x.src.length/\ArgOk u s (zB x)
 n5:x.op=5->0<=x.n/\x.n<=254
 lits:zcU u
theorem zkR {u:RUnit} {s:VSt} {x:RIns} (h: ¬(x.op=5\/x.op=6\/x.op=7)):zcq u s x=0:=by
 unfold zcq;rw [if_neg (fun e=>h (.inl e)),if_neg (fun e=>h (.inr e))]
theorem zjB (u:RUnit) (lo fo go co:zzA) (lc fc gc cc:Nat) (s:VSt) (xo yo to':zzA) (xc yc tc:Nat) (x:RIns) (so zo zs:zzA) (sc zc zsc:Nat) (w:World) (hup:UP w u lo fo go co) (hs:StLs w s xo xc yo yc to' tc) (hsl:SlAt w 2 zeG so x.src) (hgs:SlAt w 6 zfu zs x.segs) (hk:ChkOk u s x):
  Calls Tryz.prog 42 #[.agg (zzu u lo lc fo fc go gc co cc),.agg (zzs s xo xc yo yc to' tc),.agg (zzi x so sc zo zc zs zsc)] w fun e w'=>e= .returned (.int .i64 (zeN u s x))/\Below w.heap.size w w':=by
 unfold zzi zzs zzu;obtain⟨gA,gB,gC,hb⟩:=zbR w (.cells #[.string u.mdl,.int .i64 u.vsn,.slice lo u.lits.length lc,.slice fo u.funcs.length fc,.slice go u.funs.length gc,.slice co u.code.length cc] 27) (.cells #[.int .i64 s.frame,.slice xo s.x.length xc,.slice yo s.y.length yc,.slice to' s.tries.length tc,.bool s.mt,.int .i64 s.recv,.int .i64 s.frm] 40) (.cells #[.int .i64 x.op,.int .i64 x.dst.kind,.int .i64 x.dst.n,.slice so x.src.length sc,.int .i64 x.to,.int .i64 x.n,.int .i64 x.live,.string x.name,.slice zo x.cases.length zc,.slice zs x.segs.length zsc] 47);refine zzK9 gA gB gC hb (hup.below hb) (hs.below hb) (hsl.mono hb fun _ _ h=>h) (hgs.mono hb fun _ _ h=>h) hk fun HA HB HC HBB HUP HSL HSR HSG HOK=>?_;obtain⟨R,hR⟩: ∃R,R=zeN u s x:=⟨_,rfl⟩;rw [<-hR];have HR:Hid (R=zbw [zbF u s x,zcq u s x,zcp s x,zda s x,zc4 s x,zex s x]):=zzH hR;have hsl1:=hk.opd.srcLen;clear gA gB gC hb hup hs hsl hgs hk hR;go_in;go_upto_region 1 with fail;generalize((w.alloc _).alloc _).alloc _=W at *;obtain⟨c0,c1,c2,c3,c4,c5⟩:=zV HA.out;obtain⟨i0,i1,i2,i3,i4,i5,i6,i7,i8,i9⟩:=zC HC.out;have HRD:=zzH (zlX u lo fo go co lc fc gc cc x so zo zs sc zc zsc W HUP.out HSR.out HSG.out s HOK.out.opd);go_wp2_with fail;refine HRD.out.mono ?_;rintro e W1 ⟨⟨v,rfl,ho⟩,hb1⟩;obtain⟨la,lcap,rfl,hcell⟩:=ho.cell;refine zzK9 ((hb1.block _ (zd HA.out)).trans HA.out) ((hb1.block _ (zd HB.out)).trans HB.out) ((hb1.block _ (zd HC.out)).trans HC.out) (HUP.out.below hb1) (HSL.out.below hb1) (HSR.out.mono hb1 fun _ _ h=>h) (ze HBB.out hb1) hcell (znT HOK.out.opd HOK.out.args) fun HA1 HB1 HC1 HU1 HS1 HR1 HW1 HCL HMEM=>?_
 have hll:(zdk u x).length<=10000:=by
  have h1:=zer x.segs;have h2:=HOK.out.opd.segsLen;have h3:=HOK.out.opd.num;unfold zdk zbJ;rw [zzq12,zzq12,List.length_map,List.length_range];omega
 obtain⟨L,hL⟩: ∃L,L=zdk u x:=⟨_,rfl⟩;rw [<-hL]at HCL HMEM hll ⊢;have HLL:=zzH hL;clear c0 c1 c2 c3 c4 c5 i0 i1 i2 i3 i4 i5 i6 i7 i8 i9 ho hb1 hcell HRD HA HB HC HUP HSL HSR HSG hL;obtain⟨F,hF⟩: ∃F,F=zbs s L:=⟨_,rfl⟩;have HF:=zzH hF;clear hF;go_wp2_with fail;go_loopw [8,9,10] (fun iv _ _ wr=> ∃k:Nat,k<=L.length/\iv= .int .i64 k/\Hid (F=zbs s (L.drop k))/\Hid (Below W1.heap.size W1 wr)) (fun iv _ _ _=>L.length-(intOf iv).toNat)
 case atStart=>exact⟨0,zzZ _,rfl,zzH (by rw [List.drop_zero];exact HF.out),zzH (zzR _ _)⟩
 case round=>
  obtain⟨k,hk,rfl,HFk,HBk⟩:=hrel;rename World=>wr
  by_cases hlt:k<L.length
  ·as_aux_lemma=>
   obtain⟨lb,rfl,hlb,e0,e1⟩:=HCL.out k hlt;obtain⟨c0,c1,c2,c3,c4,c5⟩:=zV ((HBk.out.block _ (zd HA1.out)).trans HA1.out);obtain⟨d0,d1,d2,d3,d4,d5,d6⟩:=zN ((HBk.out.block _ (zd HB1.out)).trans HB1.out)
   replace e0:=(HBk.out.cell (p:=⟨lb,k*2,none⟩) hlb).trans e0
   replace e1:=(HBk.out.cell (p:=⟨lb,k*2+1,none⟩) hlb).trans e1
   have hk0:(0:Int)<=(k:Int):=by omega
   have hk1:(k:Int)<(L.length:Int):=by omega
   have HFD:=zzH (zka (s:=s) hlt);have hbd:=HBk.out.trans ((zzR wr.heap.size wr).drew.mono HBk.out.size);have HOF:=zzH (zhD u lo fo go co lc fc gc cc s xo yo to' xc yc tc L[k] wr.drew (HU1.out.below hbd) (HS1.out.below hbd) HOK.out.st (HMEM.out _ (zzM hlt)) HOK.out.lits);generalize L[k]=ag at *;obtain⟨ak,an⟩:=ag;simp only at e0 e1 HOF;generalize zcj u s ⟨ak,an⟩=kt at *;obtain⟨ke,hke⟩: ∃ke,ke=zb2 s ⟨ak,an⟩:=⟨_,rfl⟩;rw [<-hke]at HOF HFD;clear hke hbd;go_upto_region 5 with fail;have K1:Hid (zzrU wr.drew w.heap.size u lo lc fo fc go gc co cc (zzrS wr.drew (w.heap.size+1) s xo xc yo yc to' tc (wr.drew.cell? ⟨lb,k*2,none⟩=some (.int .i64 ak)/\wr.drew.cell? ⟨lb,k*2+1,none⟩=some (.int .i64 an)))):=zzH ⟨by simpa using c0,by simpa using c1,by simpa using c2,by simpa using c3,by simpa using c4,by simpa using c5,by simpa using d0,by simpa using d1,by simpa using d2,by simpa using d3,by simpa using d4,by simpa using d5,by simpa using d6,by simpa using e0,by simpa using e1⟩;have hlA:=zd HA1.out;have hlB:=zd HB1.out;have hws:=HBk.out.size;have HX:=zzH (zzI hlA (zzI hlB (zzI hlb hws)));clear hlA hlB hws;refine zbr 12 (fun w'=>zzrU w' w.heap.size u lo lc fo fc go gc co cc (zzrS w' (w.heap.size+1) s xo xc yo yc to' tc (w'.cell? ⟨lb,k*2,none⟩=some (.int .i64 ak)/\w'.cell? ⟨lb,k*2+1,none⟩=some (.int .i64 an)))) (fun w'=>True) (by kernel_rfl) ⟨K1.out,trivial⟩ (fun hHeld=>?_);refine zg 0 hHeld ?_;simp only [zzX0];refine zg 1 hHeld ?_;simp only [zzX0];refine zg 2 hHeld ?_;simp only [zzX0];refine zg 3 hHeld ?_;simp only [zzX0];refine zg 4 hHeld ?_;simp only [zzX0];refine zg 5 hHeld ?_;simp only [zzX0];refine zE 6 fun KK hK=>?_
   go_simp;refine HOF.out.mono ?_;rintro e w5 ⟨rfl,hb5⟩;have hb6:=(zzR wr.heap.size wr).drew.trans hb5;have K5:Hid (zzrU w5 w.heap.size u lo lc fo fc go gc co cc (zzrS w5 (w.heap.size+1) s xo xc yo yc to' tc (w5.cell? ⟨lb,k*2,none⟩=some (.int .i64 ak)/\w5.cell? ⟨lb,k*2+1,none⟩=some (.int .i64 an)))):=zzH ⟨(hb6.cell (p:=⟨w.heap.size,0,none⟩) (by show w.heap.size<wr.heap.size;have:=HX.out;omega)).trans c0,(hb6.cell (p:=⟨w.heap.size,1,none⟩) (by show w.heap.size<wr.heap.size;have:=HX.out;omega)).trans c1,(hb6.cell (p:=⟨w.heap.size,2,none⟩) (by show w.heap.size<wr.heap.size;have:=HX.out;omega)).trans c2,(hb6.cell (p:=⟨w.heap.size,3,none⟩) (by show w.heap.size<wr.heap.size;have:=HX.out;omega)).trans c3,(hb6.cell (p:=⟨w.heap.size,4,none⟩) (by show w.heap.size<wr.heap.size;have:=HX.out;omega)).trans c4,(hb6.cell (p:=⟨w.heap.size,5,none⟩) (by show w.heap.size<wr.heap.size;have:=HX.out;omega)).trans c5,(hb6.cell (p:=⟨w.heap.size+1,0,none⟩) (by show w.heap.size+1<wr.heap.size;have:=HX.out;omega)).trans d0,(hb6.cell (p:=⟨w.heap.size+1,1,none⟩) (by show w.heap.size+1<wr.heap.size;have:=HX.out;omega)).trans d1,(hb6.cell (p:=⟨w.heap.size+1,2,none⟩) (by show w.heap.size+1<wr.heap.size;have:=HX.out;omega)).trans d2,(hb6.cell (p:=⟨w.heap.size+1,3,none⟩) (by show w.heap.size+1<wr.heap.size;have:=HX.out;omega)).trans d3,(hb6.cell (p:=⟨w.heap.size+1,4,none⟩) (by show w.heap.size+1<wr.heap.size;have:=HX.out;omega)).trans d4,(hb6.cell (p:=⟨w.heap.size+1,5,none⟩) (by show w.heap.size+1<wr.heap.size;have:=HX.out;omega)).trans d5,(hb6.cell (p:=⟨w.heap.size+1,6,none⟩) (by show w.heap.size+1<wr.heap.size;have:=HX.out;omega)).trans d6,(hb6.cell (p:=⟨lb,k*2,none⟩) (by show lb<wr.heap.size;have:=HX.out;omega)).trans e0,(hb6.cell (p:=⟨lb,k*2+1,none⟩) (by show lb<wr.heap.size;have:=HX.out;omega)).trans e1⟩;have HB6:=zzH (HBk.out.trans (hb6.mono HBk.out.size));clear hb5 hb6;go_wp2_with fail;refine hK.out _ _ ⟨K5.out,trivial⟩ ?_;clear hK KK
   try simp only [zzX0]
   refine zg 7 ⟨K5.out,trivial⟩ ?_;simp only [zzX0];refine zg 8 ⟨K5.out,trivial⟩ ?_;simp only [zzX0];refine zg 9 ⟨K5.out,trivial⟩ ?_;simp only [zzX0];refine zg 10 ⟨K5.out,trivial⟩ ?_;simp only [zzX0];refine zg 11 ⟨K5.out,trivial⟩ ?_;simp only [zzX0];refine zbq (by kernel_rfl) ?_ _;clear K1 K5 hHeld c0 c1 c2 c3 c4 c5 d0 d1 d2 d3 d4 d5 d6 e0 e1;by_cases h0:ke=0
   ·have HF2:Hid (F=zbs s (L.drop (k+1))):=zzH (by rw [HFk.out,HFD.out,if_neg (fun h=>h h0)])
    subst h0;go_wp2_with fail;exact⟨⟨k+1,hlt,by go_num,HF2,HB6⟩,by simp [intOf];omega⟩
   ·have hFe:F=ke:=by rw [HFk.out,HFD.out,if_pos h0]
    have HRR:Hid (R=ke):=zzH (by
     have hop:zbF u s x=ke:=by unfold zbF;rw [<-HLL.out,<-HF.out,hFe,if_pos h0]
     rw [HR.out,hop];exact if_pos h0)
    have u1 : (ke != 0) = true := zch h0;clear h0 hFe;go_wp2;go_ret;exact⟨zY HRR.out.symm,HW1.out.trans (HB6.out.mono HW1.out.size)⟩
  ·obtain rfl:k=L.length:=by omega
   as_aux_lemma=>
   have HF0:Hid (zbs s (zdk u x)=0):=zzH (by rw [<-HLL.out,<-HF.out,HFk.out,List.drop_length];rfl);have HST:Hid (Below w.heap.size w wr):=zzH (HW1.out.trans (HBk.out.mono HW1.out.size));refine zzK6 ((HBk.out.block _ (zd HA1.out)).trans HA1.out) ((HBk.out.block _ (zd HB1.out)).trans HB1.out) ((HBk.out.block _ (zd HC1.out)).trans HC1.out) (HU1.out.below HBk.out) (HS1.out.below HBk.out) (HR1.out.mono HBk.out fun _ _ h=>h) fun HA2 HB2 HC2 HU2 HS2 HR2=>?_;clear HFk HF HBk HA1 HB1 HC1 HU1 HS1 HR1 HCL HMEM hlt hk;obtain⟨c0,c1,c2,c3,c4,c5⟩:=zV HA2.out;obtain⟨d0,d1,d2,d3,d4,d5,d6⟩:=zN HB2.out;obtain⟨i0,i1,i2,i3,i4,i5,i6,i7,i8,i9⟩:=zC HC2.out;obtain⟨M,hM⟩: ∃M,M=wr.heap.size:=⟨_,rfl⟩;have HM:=zzH hM;have HWB:=HST;have hlA:w.heap.size<M:=by rw [hM];exact zd HA2.out
   have hlB:w.heap.size+1<M:=by rw [hM];exact zd HB2.out
   have hlC:w.heap.size+1+1<M:=by rw [hM];exact zd HC2.out
   obtain⟨V,hV⟩: ∃V,V=wr:=⟨_,rfl⟩;rw [<-hV]at HA2 HB2 HC2 HU2 HS2 HR2 HST;have HV0:Hid (Below M V wr):=zzH (by rw [hV];exact zzR _ _);have HMV:Hid (M=V.heap.size):=zzH (by rw [hM,hV]);clear hM hV HM HWB;clear c0 c1 c2 c3 c4 c5;go_upto_region 8 with fail;obtain⟨B,hB⟩: ∃B,B=decide (x.dst.kind=2/\s.frame<=x.dst.n):=⟨_,rfl⟩;have HB:=zzH hB;clear hB;go_cut [46] (fun v wx=>v= .bool B/\wr=wx)
   case first=>
    as_aux_lemma=>
    by_cases h1:x.dst.kind=2
    ·have t1:(x.dst.kind==2)=true:=zzl.2 h1
     by_cases h2:s.frame<=x.dst.n
     ·have t2:decide (s.frame<=x.dst.n)=true:=zzT h2
      have HBV:Hid (B=true):=zzH (by rw [HB.out];exact zzT (by exact⟨h1,h2⟩));clear h1 h2;exact zz128
     ·have t2:decide (s.frame<=x.dst.n)=false:=zzD h2
      have HBV:Hid (B=false):=zzH (by rw [HB.out];exact zzD (by exact fun h=>h2 h.2));clear h1 h2;exact zz128
    ·have t1:(x.dst.kind==2)=false:=zzB.2 h1
     have HBV:Hid (B=false):=zzH (by rw [HB.out];exact zzD (by exact fun h=>h1 h.1));clear h1;exact zz128
   case rest=>
    obtain⟨rfl,rfl⟩:=hcut;have HVC:=HV0
    cases B with
    |true=>
     have HRR:Hid (R=181):=zzH (by
      rw [HR.out];unfold zbw;have h1:zbF u s x=181:=by unfold zbF;rw [HF0.out,if_neg (fun h=>h rfl),if_pos (of_decide_eq_true HB.out.symm)]
      rw [h1];rfl)
     exact zz148
    |false=>
     have HOP:Hid (zbF u s x=0):=zzH (by unfold zbF;rw [HF0.out,if_neg (fun h=>h rfl),if_neg (of_decide_eq_false HB.out.symm)]);clear HB;go_upto_region 10 with fail;obtain⟨B,hB⟩: ∃B,B=decide (x.op=5\/x.op=6\/x.op=7):=⟨_,rfl⟩;have HB:=zzH hB;clear hB;go_cut [59] (fun v wx=>v= .bool B/\wr=wx)
     case first=>
      as_aux_lemma=>
      by_cases h5:x.op=5
      ·have t5:(x.op==5)=true:=zzl.2 h5
       have HBV:Hid (B=true):=zzH (by rw [HB.out];exact zzT (by omega));clear h5;exact zz128
      have t5:(x.op==5)=false:=zzB.2 h5;by_cases h6:x.op=6
      ·have t6:(x.op==6)=true:=zzl.2 h6
       have HBV:Hid (B=true):=zzH (by rw [HB.out];exact zzT (by omega));clear h5 h6;exact zz128
      have t6:(x.op==6)=false:=zzB.2 h6;by_cases h7:x.op=7
      ·have t7:(x.op==7)=true:=zzl.2 h7
       have HBV:Hid (B=true):=zzH (by rw [HB.out];exact zzT (by omega));clear h5 h6 h7;exact zz128
      have t7:(x.op==7)=false:=zzB.2 h7;have HBV:Hid (B=false):=zzH (by rw [HB.out];exact zzD (by omega));clear h5 h6 h7;exact zz128
     case rest=>
      obtain⟨rfl,rfl⟩:=hcut;go_upto_if 59 with fail;go_cut [] (fun wx=>Hid (zcq u s x=0)/\Hid (Below M V wx))
      case first=>
       as_aux_lemma=>
       cases B with
       |false=>
        have HT0:Hid (zcq u s x=0):=zzH (zkR (of_decide_eq_false HB.out.symm));go_wp2_with fail;go_meet;exact⟨HT0,HVC⟩
       |true=>
        have h57:=zza HB.out.symm;obtain⟨hs0,hao⟩:=HOK.out.src h57;obtain⟨sb,sf,hso,hsb,q0,q1,-,-⟩:=HR2.out.arg hs0;subst hso;rw [Nat.zero_mul,Nat.add_zero]at q0 q1;have hs0e:x.src[0]=zB x:=by unfold zB;rw [List.headD_eq_head?_getD,List.head?_eq_getElem?,zzq3 hs0];rfl
        rw [hs0e]at q0 q1
        replace q0:=(HVC.out.cell (p:=⟨sb,sf,none⟩) (by rw [HMV.out];exact hsb)).trans q0
        replace q1:=(HVC.out.cell (p:=⟨sb,sf+1,none⟩) (by rw [HMV.out];exact hsb)).trans q1
        obtain⟨c0,c1,c2,c3,c4,c5⟩:=zV ((HVC.out.block _ hlA).trans HA2.out);have hpi:(0:Int)<(x.src.length:Int):=by omega
        have hpn:0<x.src.length:=hs0;have hbd:Below V.heap.size V wr.drew:=by rw [<-HMV.out];exact HVC.out.trans ((zzR wr.heap.size wr).drew.mono (by have:=HVC.out.size;rw [HMV.out];exact this))
        have HOF:=zzH (zhD u lo fo go co lc fc gc cc s xo yo to' xc yc tc (zB x) wr.drew (HU2.out.below hbd) (HS2.out.below hbd) HOK.out.st hao HOK.out.lits);have HTY:Hid (zcq u s x=if x.op=5 then(if zcj u s (zB x)<3+x.n+1 then 180 else 0)else if x.op=6\/x.op=7 then(if zcj u s (zB x)≠2 then 180 else 0)else 0):=zzH rfl;generalize zB x=ag at *;obtain⟨ak,an⟩:=ag;simp only at q0 q1 HOF;generalize zcj u s ⟨ak,an⟩=kt at *;generalize zb2 s ⟨ak,an⟩=ke at *;have H57:=zzH h57;clear hs0 hao hs0e hbd h57;go_upto_region 11 with fail;have K1:Hid (zzrU wr.drew w.heap.size u lo lc fo fc go gc co cc (zzrS wr.drew (w.heap.size+1) s xo xc yo yc to' tc (wr.drew.cell? ⟨w.heap.size+1+1,3,none⟩=some (.slice (some ⟨sb,sf,none⟩) x.src.length sc)/\wr.drew.cell? ⟨sb,sf,none⟩=some (.int .i64 ak)/\wr.drew.cell? ⟨sb,sf+1,none⟩=some (.int .i64 an)))):=zzH ⟨by simpa using c0,by simpa using c1,by simpa using c2,by simpa using c3,by simpa using c4,by simpa using c5,by simpa using d0,by simpa using d1,by simpa using d2,by simpa using d3,by simpa using d4,by simpa using d5,by simpa using d6,by simpa using i3,by simpa using q0,by simpa using q1⟩;have hws:M<=wr.heap.size:=by have:=HVC.out.size;rw [HMV.out];exact this
        have hsbM:sb<M:=by rw [HMV.out];exact hsb
        have HX:=zzH (zzI hlA (zzI hlB (zzI hlC (zzI hsbM hws))));clear hws hsbM;refine zbr 12 (fun w'=>zzrU w' w.heap.size u lo lc fo fc go gc co cc (zzrS w' (w.heap.size+1) s xo xc yo yc to' tc (w'.cell? ⟨w.heap.size+1+1,3,none⟩=some (.slice (some ⟨sb,sf,none⟩) x.src.length sc)/\w'.cell? ⟨sb,sf,none⟩=some (.int .i64 ak)/\w'.cell? ⟨sb,sf+1,none⟩=some (.int .i64 an)))) (fun w'=>True) (by kernel_rfl) ⟨K1.out,trivial⟩ (fun hHeld=>?_);refine zg 0 hHeld ?_;simp only [zzX0];refine zg 1 hHeld ?_;simp only [zzX0];refine zg 2 hHeld ?_;simp only [zzX0];refine zg 3 hHeld ?_;simp only [zzX0];refine zg 4 hHeld ?_;simp only [zzX0];refine zg 5 hHeld ?_;simp only [zzX0];refine zE 6 fun KK hK=>?_
        go_simp;refine HOF.out.mono ?_;rintro e w5 ⟨rfl,hb5⟩;have hb6:=(zzR wr.heap.size wr).drew.trans hb5;have K5:Hid (zzrU w5 w.heap.size u lo lc fo fc go gc co cc (zzrS w5 (w.heap.size+1) s xo xc yo yc to' tc (w5.cell? ⟨w.heap.size+1+1,3,none⟩=some (.slice (some ⟨sb,sf,none⟩) x.src.length sc)/\w5.cell? ⟨sb,sf,none⟩=some (.int .i64 ak)/\w5.cell? ⟨sb,sf+1,none⟩=some (.int .i64 an)))):=zzH ⟨(hb6.cell (p:=⟨w.heap.size,0,none⟩) (by show w.heap.size<wr.heap.size;have:=HX.out;omega)).trans c0,(hb6.cell (p:=⟨w.heap.size,1,none⟩) (by show w.heap.size<wr.heap.size;have:=HX.out;omega)).trans c1,(hb6.cell (p:=⟨w.heap.size,2,none⟩) (by show w.heap.size<wr.heap.size;have:=HX.out;omega)).trans c2,(hb6.cell (p:=⟨w.heap.size,3,none⟩) (by show w.heap.size<wr.heap.size;have:=HX.out;omega)).trans c3,(hb6.cell (p:=⟨w.heap.size,4,none⟩) (by show w.heap.size<wr.heap.size;have:=HX.out;omega)).trans c4,(hb6.cell (p:=⟨w.heap.size,5,none⟩) (by show w.heap.size<wr.heap.size;have:=HX.out;omega)).trans c5,(hb6.cell (p:=⟨w.heap.size+1,0,none⟩) (by show w.heap.size+1<wr.heap.size;have:=HX.out;omega)).trans d0,(hb6.cell (p:=⟨w.heap.size+1,1,none⟩) (by show w.heap.size+1<wr.heap.size;have:=HX.out;omega)).trans d1,(hb6.cell (p:=⟨w.heap.size+1,2,none⟩) (by show w.heap.size+1<wr.heap.size;have:=HX.out;omega)).trans d2,(hb6.cell (p:=⟨w.heap.size+1,3,none⟩) (by show w.heap.size+1<wr.heap.size;have:=HX.out;omega)).trans d3,(hb6.cell (p:=⟨w.heap.size+1,4,none⟩) (by show w.heap.size+1<wr.heap.size;have:=HX.out;omega)).trans d4,(hb6.cell (p:=⟨w.heap.size+1,5,none⟩) (by show w.heap.size+1<wr.heap.size;have:=HX.out;omega)).trans d5,(hb6.cell (p:=⟨w.heap.size+1,6,none⟩) (by show w.heap.size+1<wr.heap.size;have:=HX.out;omega)).trans d6,(hb6.cell (p:=⟨w.heap.size+1+1,3,none⟩) (by show w.heap.size+1+1<wr.heap.size;have:=HX.out;omega)).trans i3,(hb6.cell (p:=⟨sb,sf,none⟩) (by show sb<wr.heap.size;have:=HX.out;omega)).trans q0,(hb6.cell (p:=⟨sb,sf+1,none⟩) (by show sb<wr.heap.size;have:=HX.out;omega)).trans q1⟩;have HB6:=zzH (HVC.out.trans (hb6.mono HX.out.2.2.2.2));clear hb5 hb6;go_wp2_with fail;refine hK.out _ _ ⟨K5.out,trivial⟩ ?_;clear hK KK
        try simp only [zzX0]
        refine zg 7 ⟨K5.out,trivial⟩ ?_;simp only [zzX0];refine zg 8 ⟨K5.out,trivial⟩ ?_;simp only [zzX0];refine zg 9 ⟨K5.out,trivial⟩ ?_;simp only [zzX0];refine zg 10 ⟨K5.out,trivial⟩ ?_;simp only [zzX0];refine zg 11 ⟨K5.out,trivial⟩ ?_;simp only [zzX0];refine zbq (by kernel_rfl) ?_ _;clear K1 K5 hHeld c0 c1 c2 c3 c4 c5 q0 q1;clear d0 d1 d2 d3 d4 d5 d6 i0 i1 i2 i3 i4 i5 i6 i7 i8 i9;obtain⟨i0,i1,i2,i3,i4,i5,i6,i7,i8,i9⟩:=zC ((HB6.out.block _ hlC).trans HC2.out);have HVC2:=HB6;clear HVC;have HVC:=HVC2;clear HVC2;by_cases h5:x.op=5
        ·have t5:(x.op==5)=true:=zzl.2 h5
         have s5 : (x.op != 5) = false := zcQ h5;have hn:=HOK.out.n5 h5;have hw1:IntKind.i64.wrap (3+x.n)=3+x.n:=by rw [zzq2];omega
         have hw2:IntKind.i64.wrap (3+x.n+1)=3+x.n+1:=by rw [zzq2];omega
         by_cases h6:kt<3+x.n+1
         ·have t6:decide (kt<3+x.n+1)=true:=zzT h6
          have HTV:Hid (zcq u s x=180):=zzH (by rw [HTY.out,if_pos h5,if_pos h6]);clear h5 h6 hn;exact zz141
         ·have t6:decide (kt<3+x.n+1)=false:=zzD h6
          have HTV:Hid (zcq u s x=0):=zzH (by rw [HTY.out,if_pos h5,if_neg h6]);clear h5 h6 hn;go_wp2_with fail;go_meet;exact⟨HTV,HVC⟩
        ·have t5:(x.op==5)=false:=zzB.2 h5
         have s5 : (x.op != 5) = true := zch h5;by_cases h6:kt=2
         ·have t6 : (kt != 2) = false := zcQ h6
          have HTV:Hid (zcq u s x=0):=zzH (by rw [HTY.out,if_neg h5,if_pos (H57.out.resolve_left h5),if_neg (fun h=>h h6)]);clear h5 h6;go_wp2_with fail;go_meet;exact⟨HTV,HVC⟩
         ·have t6 : (kt != 2) = true := zch h6
          have HTV:Hid (zcq u s x=180):=zzH (by rw [HTY.out,if_neg h5,if_pos (H57.out.resolve_left h5),if_pos h6]);clear h5 h6;exact zz141
      case rest=>
       obtain⟨HTV,HVC2⟩:=hcut;clear HVC HB;have HVC:=HVC2;clear HVC2 B;clear d0 d1 d2 d3 d4 d5 d6 i0 i1 i2 i3 i4 i5 i6 i7 i8 i9;obtain⟨-,-,-,-,-,d5,-⟩:=zN ((HVC.out.block _ hlB).trans HB2.out);obtain⟨i0,-,-,-,-,-,-,-,-,-⟩:=zC ((HVC.out.block _ hlC).trans HC2.out);go_upto_region 14 with fail;obtain⟨B,hB⟩: ∃B,B=decide ((s.recv≠0/\zc3 x.op=false)\/((x.op=37\/x.op=40)/\s.recv≠1)\/((x.op=38\/x.op=39)/\s.recv≠2)):=⟨_,rfl⟩;have HB:=zzH hB;clear hB;go_cut [128] (fun v wx=>v= .bool B/\Hid (Below M V wx))
       case first=>
        as_aux_lemma=>
        generalize x.op=op at *;generalize s.recv=rv at *;by_cases h37:op=37
        ·subst h37
         by_cases r0:rv=0
         ·exact zz139
         have a0 : (rv != 0) = true := zch r0;by_cases r1:rv=1
         ·have a1 : (rv != 1) = false := zcQ r1
          have HBV:Hid (B=false):=zzH (by rw [HB.out];exact zzD (by rintro(⟨_,h⟩|⟨h,h'⟩|⟨h,h'⟩)<;>first|omega|exact absurd h (by decide)));clear r0 r1;exact zz134
         ·have a1 : (rv != 1) = true := zch r1
          have HBV:Hid (B=true):=zzH (by rw [HB.out];exact zzT (by exact .inr (.inl ⟨by decide,r1⟩)));clear r0;exact zz134
        have t37:(op==37)=false:=zzB.2 h37;by_cases h40:op=40
        ·subst h40
         by_cases r0:rv=0
         ·exact zz139
         have a0 : (rv != 0) = true := zch r0;by_cases r1:rv=1
         ·have a1 : (rv != 1) = false := zcQ r1
          have HBV:Hid (B=false):=zzH (by rw [HB.out];exact zzD (by rintro(⟨_,h⟩|⟨h,h'⟩|⟨h,h'⟩)<;>first|omega|exact absurd h (by decide)));clear r0 r1;exact zz135
         ·have a1 : (rv != 1) = true := zch r1
          have HBV:Hid (B=true):=zzH (by rw [HB.out];exact zzT (by exact .inr (.inl ⟨by decide,r1⟩)));clear r0;exact zz135
        have t40:(op==40)=false:=zzB.2 h40;by_cases h38:op=38
        ·subst h38
         by_cases r0:rv=0
         ·exact zz140
         have a0 : (rv != 0) = true := zch r0;by_cases r1:rv=2
         ·have a1 : (rv != 2) = false := zcQ r1
          have HBV:Hid (B=false):=zzH (by rw [HB.out];exact zzD (by rintro(⟨_,h⟩|⟨h,h'⟩|⟨h,h'⟩)<;>first|omega|exact absurd h (by decide)));clear r0 r1;exact zz136
         ·have a1 : (rv != 2) = true := zch r1
          have HBV:Hid (B=true):=zzH (by rw [HB.out];exact zzT (by exact .inr (.inr ⟨by decide,r1⟩)));clear r0;exact zz136
        have t38:(op==38)=false:=zzB.2 h38;by_cases h39:op=39
        ·subst h39
         by_cases r0:rv=0
         ·exact zz140
         have a0 : (rv != 0) = true := zch r0;by_cases r1:rv=2
         ·have a1 : (rv != 2) = false := zcQ r1
          have HBV:Hid (B=false):=zzH (by rw [HB.out];exact zzD (by rintro(⟨_,h⟩|⟨h,h'⟩|⟨h,h'⟩)<;>first|omega|exact absurd h (by decide)));clear r0 r1;exact zz137
         ·have a1 : (rv != 2) = true := zch r1
          have HBV:Hid (B=true):=zzH (by rw [HB.out];exact zzT (by exact .inr (.inr ⟨by decide,r1⟩)));clear r0;exact zz137
        have t39:(op==39)=false:=zzB.2 h39;by_cases r0:rv=0
        ·have a0 : (rv != 0) = false := zcQ r0
         have HBV:Hid (B=false):=zzH (by rw [HB.out];exact zzD (by rintro(⟨h,_⟩|⟨h,_⟩|⟨h,_⟩)<;>omega));clear r0 h37 h38 h39 h40;exact zz201
        have a0 : (rv != 0) = true := zch r0
        cases ho:zc3 op with
        |true=>
         have HBV:Hid (B=false):=zzH (by rw [HB.out];exact zzD (by rintro(⟨_,h⟩|⟨h,_⟩|⟨h,_⟩)<;>first|omega|(rw [ho]at h;cases h)));exact zz138
        |false=>
         have HBV:Hid (B=true):=zzH (by rw [HB.out];exact zzT (by exact .inl ⟨r0,ho⟩));exact zz138
       case rest=>
        obtain⟨rfl,HVC2⟩:=hcut;clear HVC;have HVC:=HVC2;clear HVC2 d5 i0;rename World=>wd
        obtain⟨-,-,-,-,d4,-,-⟩:=zN ((HVC.out.block _ hlB).trans HB2.out);obtain⟨i0,-,-,-,-,-,-,-,-,-⟩:=zC ((HVC.out.block _ hlC).trans HC2.out)
        cases B with
        |true=>
         have HRR:Hid (R=184):=zzH (by
          rw [HR.out];unfold zbw;have h1:zcp s x=184:=by rw [zhj];unfold zfC;rw [<-HB.out];rfl
          rw [HOP.out,HTV.out,h1];rfl)
         exact zz148
        |false=>
         have HRV:Hid (zcp s x=0):=zzH (by rw [zhj];unfold zfC;rw [<-HB.out];rfl);clear HB;go_upto_region 16 with fail;obtain⟨B,hB⟩: ∃B,B=decide (s.mt=false/\31<=x.op/\x.op<=34):=⟨_,rfl⟩;have HB:=zzH hB;clear hB;go_cut [151] (fun v wx=>v= .bool B/\Hid (Below M V wx))
         case first=>
          as_aux_lemma=>
          generalize x.op=op at *;generalize s.mt=mt at *
          cases mt with
          |true=>
           have HBV:Hid (B=false):=zzH (by rw [HB.out];exact zzD (by rintro⟨h,-⟩;cases h));clear HRV;exact zz201
          |false=>
           by_cases h31:op=31
           ·subst h31
            exact zz142
           have t31:(op==31)=false:=zzB.2 h31;by_cases h32:op=32
           ·subst h32
            exact zz142
           have t32:(op==32)=false:=zzB.2 h32;by_cases h33:op=33
           ·subst h33
            exact zz142
           have t33:(op==33)=false:=zzB.2 h33;by_cases h34:op=34
           ·subst h34
            exact zz142
           have t34:(op==34)=false:=zzB.2 h34;have HBV:Hid (B=false):=zzH (by rw [HB.out];exact zzD (by rintro⟨-,h,h'⟩;omega));clear h31 h32 h33 h34;exact zz201
         case rest=>
          obtain⟨rfl,HVC2⟩:=hcut;clear HVC;have HVC:=HVC2;clear HVC2 d4 i0;rename World=>we
          obtain⟨d0,-,-,-,-,-,-⟩:=zN ((HVC.out.block _ hlB).trans HB2.out);obtain⟨i0,-,-,-,-,-,-,-,-,-⟩:=zC ((HVC.out.block _ hlC).trans HC2.out)
          cases B with
          |true=>
           have HRR:Hid (R=183):=zzH (by
            rw [HR.out];unfold zbw;have h1:zda s x=183:=by unfold zda;exact if_pos (zza HB.out.symm)
            rw [HOP.out,HTV.out,HRV.out,h1];rfl)
           exact zz148
          |false=>
           have HMA:Hid (zda s x=0):=zzH (by unfold zda;exact if_neg (of_decide_eq_false HB.out.symm));clear HB;go_upto_region 18 with fail;obtain⟨B,hB⟩: ∃B,B=decide ((x.op=24/\0<=s.frame)\/(x.op=25/\s.frame<0)\/(zbi x.op=true/\0<=s.frame)):=⟨_,rfl⟩;have HB:=zzH hB;clear hB;go_cut [179] (fun v wx=>v= .bool B/\Hid (Below M V wx))
           case first=>
            as_aux_lemma=>
            generalize x.op=op at *;generalize s.frame=fr at *;by_cases h1:0<=fr
            ·have t1:decide (0<=fr)=true:=zzT h1
             have t2:decide (fr<0)=false:=zzD (by omega);by_cases h2:op=24
             ·exact zz143
             have t3:(op==24)=false:=zzB.2 h2;by_cases h3:op=25
             ·subst h3
              have hop:zbi 25=false:=by decide
              have HBV:Hid (B=false):=zzH (by rw [HB.out];exact zzD (by rintro(⟨h,-⟩|⟨-,h⟩|⟨h,-⟩)<;>first|omega|(rw [hop]at h;cases h)));clear h1;go_wp2_with fail;refine(zcN 25 we).mono ?_;exact zz149
             have t4:(op==25)=false:=zzB.2 h3
             cases hlv:zbi op with
             |true=>
              have HBV:Hid (B=true):=zzH (by rw [HB.out];exact zzT (by exact .inr (.inr ⟨hlv,h1⟩)));exact zz144
             |false=>
              have HBV:Hid (B=false):=zzH (by rw [HB.out];exact zzD (by rintro(⟨h,-⟩|⟨h,-⟩|⟨h,-⟩)<;>first|omega|(rw [hlv]at h;cases h)));exact zz144
            ·have t1:decide (0<=fr)=false:=zzD h1
             have t2:decide (fr<0)=true:=zzT (by omega);by_cases h3:op=25
             ·subst h3
              have HBV:Hid (B=true):=zzH (by rw [HB.out];exact zzT (by exact .inr (.inl ⟨rfl,by omega⟩)));clear h1;exact zz201
             have t4:(op==25)=false:=zzB.2 h3;have HBV:Hid (B=false):=zzH (by rw [HB.out];exact zzD (by rintro(⟨-,h⟩|⟨h,-⟩|⟨-,h⟩)<;>omega));clear h1 h3;by_cases h2:op=24
             ·subst h2
              have hop:zbi 24=false:=by decide
              go_wp2_with fail;refine(zcN 24 we).mono ?_;exact zz149
             have t3:(op==24)=false:=zzB.2 h2;clear h2
             cases hlv:zbi op with
             |true=>
              exact zz146
             |false=>
              exact zz146
           case rest=>
            obtain⟨rfl,HVC2⟩:=hcut;clear HVC;have HVC:=HVC2;clear HVC2 d0 i0;rename World=>wf
            obtain⟨-,-,-,d3,-,-,-⟩:=zN ((HVC.out.block _ hlB).trans HB2.out);obtain⟨i0,-,-,-,-,-,-,-,-,-⟩:=zC ((HVC.out.block _ hlC).trans HC2.out)
            cases B with
            |true=>
             have HRR:Hid (R=181):=zzH (by
              rw [HR.out];unfold zbw;have h1:zc4 s x=181:=by rw [zjm,<-HB.out];rfl
              rw [HOP.out,HTV.out,HRV.out,HMA.out,h1];rfl)
             exact zz148
            |false=>
             have HFR:Hid (zc4 s x=0):=zzH (by rw [zjm,<-HB.out];rfl);clear HB;go_upto_region 20 with fail;obtain⟨B,hB⟩: ∃B,B=decide ((x.op=29/\s.tries.length=0)\/(zbi x.op=true/\0<s.tries.length)):=⟨_,rfl⟩;have HB:=zzH hB;clear hB;go_cut [199] (fun v wx=>v= .bool B/\Hid (Below M V wx))
             case first=>
              as_aux_lemma=>
              generalize x.op=op at *;generalize s.tries.length=tl at *;have htl:(0:Int)<=(tl:Int):=by omega
              by_cases h1:tl=0
              ·have t1:((tl:Int)==0)=true:=by rw [beq_iff_eq];omega
               have t2:decide (0<(tl:Int))=false:=zzD (by omega);have t9:decide (0<tl)=false:=zzD (by omega);by_cases h2:op=29
               ·exact zz143
               have t3:(op==29)=false:=zzB.2 h2;have HBV:Hid (B=false):=zzH (by rw [HB.out];exact zzD (by rintro(⟨h,-⟩|⟨-,h⟩)<;>omega));clear h1 h2
               cases hlv:zbi op with
               |true=>
                exact zz147
               |false=>
                exact zz147
              ·have t1:((tl:Int)==0)=false:=by rw [zzq1];omega
               have t2:decide (0<(tl:Int))=true:=zzT (by omega);have t9:decide (0<tl)=true:=zzT (by omega);by_cases h2:op=29
               ·subst h2
                have hop:zbi 29=false:=by decide
                have HBV:Hid (B=false):=zzH (by rw [HB.out];exact zzD (by rintro(⟨-,h⟩|⟨h,-⟩)<;>first|omega|(rw [hop]at h;cases h)));clear h1;go_wp2_with fail;refine(zcN 29 wf).mono ?_;exact zz149
               have t3:(op==29)=false:=zzB.2 h2
               cases hlv:zbi op with
               |true=>
                have HBV:Hid (B=true):=zzH (by rw [HB.out];exact zzT (by exact .inr ⟨hlv,by omega⟩));exact zz145
               |false=>
                have HBV:Hid (B=false):=zzH (by rw [HB.out];exact zzD (by rintro(⟨-,h⟩|⟨h,-⟩)<;>first|omega|(rw [hlv]at h;cases h)));exact zz145
             case rest=>
              obtain⟨rfl,HVC2⟩:=hcut;clear HVC;have HVC:=HVC2;clear HVC2 d3 i0;rename World=>wg
              cases B with
              |true=>
               have HRR:Hid (R=182):=zzH (by
                rw [HR.out];unfold zbw;have h1:zex s x=182:=by unfold zex;exact if_pos (zza HB.out.symm)
                rw [HOP.out,HTV.out,HRV.out,HMA.out,HFR.out,h1];rfl)
               exact zz148
              |false=>
               have HTS:Hid (zex s x=0):=zzH (by unfold zex;exact if_neg (of_decide_eq_false HB.out.symm));clear HB
               have HRR:Hid (R=0):=zzH (by
                rw [HR.out];unfold zbw;rw [HOP.out,HTV.out,HRV.out,HMA.out,HFR.out,HTS.out];rfl)
               exact zz148
end Go.Proofs.YthajedcbgnloeaaGreatDoor
