import Derived.Test.YtepjanajflkakaaGreatDoorW13
namespace Go.Proofs.YtepjanajflkakaaGreatDoor
open Go.RowKit
set_option linter.unusedVariables false
set_option linter.unusedSimpArgs false
set_option maxRecDepth 100000
set_option maxHeartbeats 0
open Go.RowKit Go.Maps Go.WideMaps
theorem zfw {H:Type} {P:Program} (w:World) {ops:Array Oper} {o:Oper} {a:Act} {K':Act->World->Prop} {Q:Exit->Act->World->Prop} {E:Prop}
  (hg:o.guard=none) (m x v:Operand) (t:TypeId) (hop:o.op=Op.mapUpdate t m x v)
  (k e:TypeId) (K:Keyed P k) (ht:P.underlying t=some (.map k e)) (R:Value->Option (DataW H × List MemPlace)) (b n:Nat) (D:DataW H)
  (hm:a.eval m= .map (some b)) (hown:w.ownsMap P k R b n D) (hn:n<maxLen) (key val:Value) (kl:Lit) (hx:a.eval x=key) (hv:a.eval v=val) (hkey:keyOf P k key=some kl)
  (d:DataW H) (ps:List MemPlace) (hval:R val=some (d,ps))
  (hK: ∀w',w'.ownsMap P k R b (n+1) (D.put kl d)->w.grownBy w' (some b)->K' (a.put o.dst undef) w'):
  if Region.wanted o (yielded ops a.tmps)=true then Oper.wp P o a w K' Q else E:=by
 have hw:Region.wanted o (yielded ops a.tmps)=true:=by simp [Region.wanted,hg]
 rw [if_pos hw];obtain⟨w',hrun,r1,r2⟩:=hown.update K ht hn hkey hval;unfold Oper.wp;simp [execOp,hop,hm,hx,hv,hrun,Result.andThen];exact hK w' r1 r2
def zdT (l:List RFunc):Nat->ByteArray->Int->Option Nat
 |0,_,_=>none
 |k+1,s,a=>if(match l[k]? with|some x=>x.pub&&(x.name.data.toList==s.data.toList&&x.arity==a)|none=>false)=true then some k else zdT l k s a
def IdxIs (w:World) (M k:Nat) (l:List RFunc) (nM:Nat) (D:DataW Unit):Prop:=
 w.ownsMap Tryz.prog 108 (plainElem Tryz.prog 3) M nM D/\nM<=k/\ ∀(s:ByteArray) (a:Int),s.size<=maxLen->I64 a->D.atKey (zbW s a) (.lit (.int .i64 0))= .lit (.int .i64 ((zdT l k s a).getD 0:Nat))/\has D (zbW s a)=(zdT l k s a).isSome
theorem IdxIs.below {w w':World} {M k nM:Nat} {l:List RFunc} {D:DataW Unit} (h:IdxIs w M k l nM D) (hb:Below w.heap.size w w'):IdxIs w' M k l nM D:=
 ⟨h.1.kept (row:=none) ⟨hb.os,hb.tape,hb.output,hb.size,fun k hk _=>hb.block k hk⟩ (by simp),h.2⟩
theorem IdxIs.skip {w:World} {M k nM:Nat} {l:List RFunc} {D:DataW Unit} (h:IdxIs w M k l nM D) {x:RFunc} (hx:l[k]?=some x) (hp:x.pub=false):IdxIs w M (k+1) l nM D:=by
 refine⟨h.1,Nat.le_succ_of_le h.2.1,fun s a hs ha=>?_⟩;have e:zdT l (k+1) s a=zdT l k s a:=by show(if _=true then _ else _)=_;rw [hx];simp [hp]
 rw [e];exact h.2.2 s a hs ha
theorem IdxIs.put {w w':World} {M k nM:Nat} {l:List RFunc} {D:DataW Unit} (h:IdxIs w M k l nM D) {x:RFunc} (hx:l[k]?=some x) (hp:x.pub=true) (h1:x.name.size<=maxLen) (h2:I64 x.arity)
  (ho:w'.ownsMap Tryz.prog 108 (plainElem Tryz.prog 3) M (nM+1) (D.put (zbW x.name x.arity) (.lit (.int .i64 (k:Nat))))):IdxIs w' M (k+1) l (nM+1) (D.put (zbW x.name x.arity) (.lit (.int .i64 (k:Nat)))):=by
 refine⟨ho,Nat.succ_le_succ h.2.1,fun s a hs ha=>?_⟩;by_cases e:s=x.name/\a=x.arity
 ·obtain⟨rfl,rfl⟩:=e
  have e:zdT l (k+1) x.name x.arity=some k:=by show(if _=true then _ else _)=_;rw [hx];simp [hp]
  rw [e,atKey_put_same h.1.isMap (sigLaw.key (zbZ hs ha)),has_put_same h.1.isMap (sigLaw.key (zbZ hs ha))];exact⟨rfl,rfl⟩
 ·have hne:zbW s a≠zbW x.name x.arity:=fun h=>e (zeT hs h1 ha h2 h)
  have e2:zdT l (k+1) s a=zdT l k s a:=by
   show(if _=true then _ else _)=_;rw [hx,if_neg];intro hh;simp only [hp,zzq11,zzq6,beq_iff_eq]at hh;exact e ⟨ByteArray.ext (Array.toList_inj.1 hh.1.symm),hh.2.symm⟩
  rw [e2,atKey_put_other hne,has_put_other hne];exact h.2.2 s a hs ha
def ImgAt (w:World) (m M f lo hi:Nat) (u:RUnit):Prop:=
 ∃lo1 lc1 fo1 fc1 go1 gc1 co1 cc1,w.heap[m]?=some (.cells #[.string u.mdl,.int .i64 u.vsn,.slice lo1 u.lits.length lc1,.slice fo1 u.funcs.length fc1,.slice go1 u.funs.length gc1,.slice co1 u.code.length cc1,.map (some M)] 66 (0,0))/\UNew w f lo hi u lo1 fo1 go1 co1/\hi<=M/\M<m/\ ∃nM D,IdxIs w M u.funcs.length u.funcs nM D
def zkW (f:Nat) (u:RUnit) (V:Int × Int) (w:World) (e:Ending) (w':World):Prop:=
 Below w.heap.size w w'/\(V.2≠0->e= .returned (.tuple #[.pointer none,.int .i64 V.2]))/\(V.2=0-> ∃m M lo hi,e= .returned (.tuple #[.pointer (some ⟨m,0,none⟩),.int .i64 0])/\w.heap.size<=lo/\ImgAt w' m M f lo hi u)
theorem zc9 {w:World} {b:Nat} {T:TypeId} {v0 v1 v2 v3 v4 v5 v6:Value} {fr:Nat × Nat} (h:w.heap[b]?=some (.cells #[v0,v1,v2,v3,v4,v5,v6] T fr)):
  w.cell? ⟨b,0,none⟩=some v0/\w.cell? ⟨b,1,none⟩=some v1/\w.cell? ⟨b,2,none⟩=some v2/\w.cell? ⟨b,3,none⟩=some v3/\w.cell? ⟨b,4,none⟩=some v4/\w.cell? ⟨b,5,none⟩=some v5/\w.cell? ⟨b,6,none⟩=some v6:=by
 have hc:=fun j=>zzq0 w b j _ _ _ h
 exact⟨hc 0,hc 1,hc 2,hc 3,hc 4,hc 5,hc 6⟩
theorem zfN (f:Nat) (u:RUnit) (V:Int × Int) (lo fo go co:zzA) (lc fc gc cc:Nat) (w:World) (h:UP w u lo fo go co) (hd:SlAt w 9 (TmAt w f) lo u.lits) (hcap:zR (u.lits.map (zv f))+u.lits.length<=1000000) (hl:V.2=0->zeI u)
  (hw: ∀w1,Below w.heap.size w w1->Calls Tryz.prog 11 #[.agg #[.string u.mdl,.int .i64 u.vsn,.slice lo u.lits.length lc,.slice fo u.funcs.length fc,.slice go u.funs.length gc,.slice co u.code.length cc]] w1 fun e w2=>e= .returned (.tuple #[.int .i64 V.1,.int .i64 V.2])/\Below w1.heap.size w1 w2):
  Calls Tryz.prog 19 #[.agg (zzu u lo lc fo fc go gc co cc)] w (zkW f u V w):=by
 unfold zzu;refine zzK4 h hd hcap hl fun HUP HD HCAP HLN=>?_;have hr:=zzF w (.cells #[.string u.mdl,.int .i64 u.vsn,.slice lo u.lits.length lc,.slice fo u.funcs.length fc,.slice go u.funs.length gc,.slice co u.code.length cc] 27);have hb:=(zzR w.heap.size w).alloc (zzL _) (.cells #[.string u.mdl,.int .i64 u.vsn,.slice lo u.lits.length lc,.slice fo u.funcs.length fc,.slice go u.funs.length gc,.slice co u.code.length cc] 27);refine zzK3 hr hb (hw _ hb) fun HR HB HWH=>?_;obtain⟨Q,hQ⟩: ∃Q,Q=zkW f u V w:=⟨_,rfl⟩;rw [<-hQ];have HQ:=zzH hQ;clear h hd hcap hl hr hb hw hQ;go_in;go_upto_region 1 with fail;generalize w.alloc _=W at *;obtain⟨c0,c1,c2,c3,c4,c5⟩:=zbE HR.out;obtain⟨v1,v2⟩:=V;by_cases hv:v2=0
 case neg=>
  have hne : (v2 != 0) = true := by simpa using hv
  go_wp2_with (go_at_call 11;refine HWH.out.mono ?_;rintro e w2 ⟨rfl,hb2⟩);rw [HQ.out];exact⟨HB.out.trans (hb2.mono HB.out.size),fun _=>rfl,fun h=>absurd h hv⟩
 have hne : (v2 != 0) = false := by simpa using hv
 have hmm:= @run_makeMap Tryz.prog;have HV:=zzH hv;clear hv;go_upto_region 4 with(go_at_call 11;refine HWH.out.mono ?_;rintro e w2 ⟨rfl,hb2⟩);have hb3:=HB.out.trans (hb2.mono HB.out.size);have hr3:=(hb2.block _ (zb HR.out)).trans HR.out;obtain⟨d0,d1,d2,d3,d4,d5⟩:=zbE hr3;have hcp:=zev f u lo fo go co lc fc gc cc w2 (HUP.out.below hb3) (HD.out.mono hb3 fun _ _ h=>h.below hb3) HCAP.out (HLN.out HV.out);have HCP:=zzH hcp;have HB3:=zzH hb3;clear hcp hb3 hr3 hb2 c0 c1 c2 c3 c4 c5;go_upto_region 5 with(go_at_call 46;refine HCP.out.mono ?_;rintro e w4 ⟨⟨lo1,lc1,fo1,fc1,go1,gc1,co1,cc1,rfl,hun⟩,hb4⟩);obtain⟨s0,s1,sb,ss⟩:=zer w4 (.map #[] 0) (.cells #[.string u.mdl,.int .i64 u.vsn,.slice lo1 u.lits.length lc1,.slice fo1 u.funcs.length fc1,.slice go1 u.funs.length gc1,.slice co1 u.code.length cc1,.map (some w4.heap.size)] 66);have hmade:=(World.ownsMap_made (H:=Unit) w4 Tryz.prog 108 (plainElem Tryz.prog 3)).alloc (.cells #[.string u.mdl,.int .i64 u.vsn,.slice lo1 u.lits.length lc1,.slice fo1 u.funcs.length fc1,.slice go1 u.funs.length gc1,.slice co1 u.code.length cc1,.map (some w4.heap.size)] 66);obtain⟨M,hM⟩: ∃M,M=w4.heap.size:=⟨_,rfl⟩;obtain⟨m,hm⟩: ∃m,m=M+1:=⟨_,rfl⟩;have hun5:=hun.kept (w':=(w4.alloc (.map #[] 0)).alloc (.cells #[.string u.mdl,.int .i64 u.vsn,.slice lo1 u.lits.length lc1,.slice fo1 u.funcs.length fc1,.slice go1 u.funs.length gc1,.slice co1 u.code.length cc1,.map (some w4.heap.size)] 66)) (fun b _ b2=>sb.block b b2) (zzL _) (zzL _);have hb5:Below w.heap.size w ((w4.alloc (.map #[] 0)).alloc (.cells #[.string u.mdl,.int .i64 u.vsn,.slice lo1 u.lits.length lc1,.slice fo1 u.funcs.length fc1,.slice go1 u.funs.length gc1,.slice co1 u.code.length cc1,.map (some w4.heap.size)] 66)):=HB3.out.trans ((hb4.mono HB3.out.size).trans (sb.mono (zzY HB3.out.size hb4.size)));have hlo:w.heap.size<=w2.heap.size:=HB3.out.size;rw [<-hM]at hmade s0 s1 hun5 hb5 ⊢;rw [<-hm]at s1 ⊢;have hmM:M<m:=by omega
 generalize(w4.alloc (.map #[] 0)).alloc (.cells #[.string u.mdl,.int .i64 u.vsn,.slice lo1 u.lits.length lc1,.slice fo1 u.funcs.length fc1,.slice go1 u.funs.length gc1,.slice co1 u.code.length cc1,.map (some M)] 66)=w5 at *;obtain⟨i0',i1',i2',i3',i4',i5',i6'⟩:=zc9 s1;have HM:Hid (w4.heap.size<=M/\M<m/\w.heap.size<=w2.heap.size/\w2.heap.size<=w4.heap.size/\w.heap.size<=M):=zzH ⟨by omega,hmM,hlo,hb4.size,by have:=hb4.size;omega⟩;refine zzK3 s1 hun5 hb5 fun HS1 HUN HB5=>?_;have HIX:Hid (∃nM D,IdxIs w5 M 0 u.funcs nM D):=zzH ⟨0,_,hmade,zzL _,fun s a _ _=>⟨rfl,rfl⟩⟩;have hfl:u.funcs.length<=4000000000000:=by have:=(HLN.out HV.out).1;omega
 clear s0 s1 sb ss hmade hun hun5 hb5 hb4 hlo hmM hM hm d0 d1 d2 d3 d4 d5 HCP HWH HB3 HB HR;go_wp2_with fail;go_loopw [30] (fun iv wr=> ∃k:Nat,k<=u.funcs.length/\iv= .int .i64 k/\Hid (wr.heap[m]?=some (.cells #[.string u.mdl,.int .i64 u.vsn,.slice lo1 u.lits.length lc1,.slice fo1 u.funcs.length fc1,.slice go1 u.funs.length gc1,.slice co1 u.code.length cc1,.map (some M)] 66 (0,0)))/\Hid (UNew wr f w2.heap.size M u lo1 fo1 go1 co1)/\Hid (Below w.heap.size w wr)/\Hid (∃nM D,IdxIs wr M k u.funcs nM D)/\Hid (m<wr.heap.size)) (fun i _=>u.funcs.length-(intOf i).toNat)
 case atStart=>exact⟨0,zzZ _,rfl,HS1,HUN,HB5,HIX,zzH (zb HS1.out)⟩
 case round=>
  obtain⟨k,hk,rfl,HS,HU,HBW,HI,HMS⟩:=hrel;rename World=>wr
  clear HS1 HUN HB5 HIX i0' i1' i2' i3' i4' i5' i6';by_cases hlt:k<u.funcs.length
  ·obtain⟨m1,m2,m3,b1,b2,b3,b4,-,hF,-,-⟩:=HU.out
   rcases hF with hF|⟨b,arr,a,e,hfo,hbl,hbh,hg,-,hx⟩
   ·rw [hF]at hlt;exact absurd hlt (zzC _)
   obtain⟨cs,k1,k2,k3⟩:=hx k hlt;obtain⟨rfl,hn1,hn2,hn3⟩:=k3;obtain⟨x,hxe⟩: ∃x,x=u.funcs[k]:=⟨_,rfl⟩;have hxk:u.funcs[k]?=some x:=by rw [hxe];exact zzq4 hlt
   rw [<-hxe]at k1 k2 hn1 hn2 hn3;have q0:wr.cell? ⟨b,k*4,none⟩=some (.string x.name):=by rw [zzq0 _ _ _ _ _ _ hg];exact k2 0 (by decide)
   have q1:wr.cell? ⟨b,k*4+1,none⟩=some (.int .i64 x.arity):=by rw [zzq0 _ _ _ _ _ _ hg];exact k2 1 (by decide)
   have q2:wr.cell? ⟨b,k*4+2,none⟩=some (.bool x.pub):=by rw [zzq0 _ _ _ _ _ _ hg];exact k2 2 (by decide)
   have q3:wr.cell? ⟨b,k*4+3,none⟩=some (.int .i64 x.entry):=by rw [zzq0 _ _ _ _ _ _ hg];exact k2 3 (by decide)
   subst hfo;have HXB:Hid (x.name.size<=maxLen/\I64 x.arity):=zzH ⟨hn1,hn2⟩;have HXK:=zzH hxk;have hwb:Below wr.heap.size wr (wr.alloc (.cells #[.string x.name,.int .i64 x.arity,.bool x.pub,.int .i64 x.entry] 106)):=zzE _ _;have hwn:=zzF wr (.cells #[.string x.name,.int .i64 x.arity,.bool x.pub,.int .i64 x.entry] 106);have hws:(wr.alloc (.cells #[.string x.name,.int .i64 x.arity,.bool x.pub,.int .i64 x.entry] 106)).heap.size=wr.heap.size+1:=by simp
   refine zzK3 hwb hwn hws fun HWB HWN HWS=>?_;clear hxe k1 k2 hx hbl hbh hg hn1 hn2 hn3 hxk hwb hwn hws b1 b2 b3 b4;go_upto_region 8 with fail;generalize wr.alloc _=Wb at *;have x0:Wb.cell? ⟨wr.heap.size,0,none⟩=some (.string x.name):=by rw [zzq0 _ _ _ _ _ _ HWN.out];rfl
   have x1:Wb.cell? ⟨wr.heap.size,1,none⟩=some (.int .i64 x.arity):=by rw [zzq0 _ _ _ _ _ _ HWN.out];rfl
   have x2:Wb.cell? ⟨wr.heap.size,2,none⟩=some (.bool x.pub):=by rw [zzq0 _ _ _ _ _ _ HWN.out];rfl
   have HSB:Hid (Wb.heap[m]?=some (.cells #[.string u.mdl,.int .i64 u.vsn,.slice lo1 u.lits.length lc1,.slice (some ⟨b,0,none⟩) u.funcs.length fc1,.slice go1 u.funs.length gc1,.slice co1 u.code.length cc1,.map (some M)] 66 (0,0))):=zzH ((HWB.out.block _ HMS.out).trans HS.out)
   have HUB:Hid (UNew Wb f w2.heap.size M u lo1 (some ⟨b,0,none⟩) go1 co1):=zzH (HU.out.kept (fun b _ b2=>HWB.out.block b (by have:=HM.out;have:=HMS.out;omega)) (zzL _) (zzL _));have HBB:Hid (Below w.heap.size w Wb):=zzH (HBW.out.trans (HWB.out.mono HBW.out.size));have HMB:Hid (m<Wb.heap.size):=zzH (by have:=HWS.out;have:=HMS.out;omega);obtain⟨nM,D,hix⟩:=HI.out;have HIB:=zzH (hix.below HWB.out);clear hix HI HS HU HBW q0 q1 q2 q3;have i6:Wb.cell? ⟨m,6,none⟩=some (.map (some M)):=by rw [zzq0 _ _ _ _ _ _ HSB.out];rfl
   cases hp:x.pub with
   |false=>
    rw [hp]at x2;go_wp2_with fail;go_roundw
    case rel=>exact⟨k+1,by omega,by go_num,HSB,HUB,HBB,zzH ⟨nM,D,HIB.out.skip HXK.out hp⟩,HMB⟩
    case measure=>simp [intOf];omega
   |true=>
    rw [hp]at x2;have HOW:Hid (Wb.drew.ownsMap Tryz.prog 108 (plainElem Tryz.prog 3) M nM D/\nM<=4000000000000):=zzH ⟨HIB.out.1.drew,by have:=HIB.out.2.1;omega⟩;go_upto_region 9 with fail;have K1:Hid (Wb.drew.cell? ⟨m,6,none⟩=some (.map (some M))/\Wb.drew.cell? ⟨wr.heap.size,0,none⟩=some (.string x.name)/\Wb.drew.cell? ⟨wr.heap.size,1,none⟩=some (.int .i64 x.arity)):=zzH ⟨by simpa using i6,by simpa using x0,by simpa using x1⟩;refine zb5 11 (fun w'=>True) (fun w'=>w'.cell? ⟨m,6,none⟩=some (.map (some M))/\w'.cell? ⟨wr.heap.size,0,none⟩=some (.string x.name)/\w'.cell? ⟨wr.heap.size,1,none⟩=some (.int .i64 x.arity)) (by kernel_rfl) ⟨trivial,K1.out⟩ (fun hHeld=>?_);refine ze 0 hHeld ?_;simp only [zzX0];refine ze 1 hHeld ?_;simp only [zzX0];refine ze 2 hHeld ?_;simp only [zzX0];refine ze 3 hHeld ?_;simp only [zzX0];refine zU [] 4 hHeld ?_;simp only [zzX0];refine ze 5 hHeld ?_;simp only [zzX0];refine zU [] 6 hHeld ?_;simp only [zzX0];refine ze 7 hHeld ?_;simp only [zzX0];refine zU [] 8 hHeld ?_;simp only [zzX0];refine ze 9 hHeld ?_;simp only [zzX0];refine ze 10 hHeld ?_;simp only [zzX0];refine zba 11 fun KK hK=>?_
    refine zfw _ rfl _ _ _ 62 rfl 108 3 sigLaw Tryz.underlying62 _ M nM D rfl HOW.out.1 (by have:=HOW.out.2;unfold maxLen;omega) _ _ _ rfl rfl (zbZ HXB.out.1 HXB.out.2) _ [] (plainElem_int Tryz.underlying3 (WalkArith.wf_i64 (by constructor<;>omega))) ?_;intro w7 ho7 hg7;refine hK.out _ _ trivial ?_;clear hK KK
    try simp only [zzX0]
    refine zbV (by kernel_rfl) ?_ _;have hgb: ∀b,b<M->w7.heap[b]?=Wb.heap[b]?:=fun b hb=>hg7.block b (by have:=HM.out;have:=HMB.out;show b<Wb.heap.size;omega) (fun e=>by have:=zzf e;omega)
    have hgm:w7.heap[m]?=Wb.heap[m]?:=hg7.block m HMB.out (fun e=>by have:=zzf e;have:=HM.out;omega)
    have HS7:Hid (w7.heap[m]?=some (.cells #[.string u.mdl,.int .i64 u.vsn,.slice lo1 u.lits.length lc1,.slice (some ⟨b,0,none⟩) u.funcs.length fc1,.slice go1 u.funs.length gc1,.slice co1 u.code.length cc1,.map (some M)] 66 (0,0))):=zzH (hgm.trans HSB.out)
    have HU7:Hid (UNew w7 f w2.heap.size M u lo1 (some ⟨b,0,none⟩) go1 co1):=zzH (HUB.out.kept (fun b _ b2=>hgb b (by have:=HM.out;omega)) (zzL _) (zzL _));have HB7:Hid (Below w.heap.size w w7):=zzH (HBB.out.drew.grown hg7 HBB.out.size (fun q e=>by have:=zzf e;have:=HM.out;omega));have HI7:Hid (∃nM D,IdxIs w7 M (k+1) u.funcs nM D):=zzH ⟨_,_,HIB.out.put HXK.out hp HXB.out.1 HXB.out.2 ho7⟩;have HM7:Hid (m<w7.heap.size):=zzH (zzW HMB.out hg7.size);clear hgb hgm ho7 hg7 K1 hHeld HOW x0 x1 x2 i6;go_wp2_with fail;go_roundw
    case rel=>exact⟨k+1,by omega,by go_num,HS7,HU7,HB7,HI7,HM7⟩
    case measure=>simp [intOf];omega
  ·have hkl:k=u.funcs.length:=by omega
   subst hkl;go_wp2_with fail;rw [HQ.out];have hm:=HM.out;exact⟨HBW.out,fun h=>absurd HV.out h,fun _=>⟨m,M,w2.heap.size,M,rfl,hm.2.2.1,lo1,lc1,fo1,fc1,go1,gc1,co1,cc1,HS.out,HU.out,zzL _,hm.2.1,HI.out⟩⟩
set_option maxRecDepth 100000
theorem zfX (b M:Nat) (w:World) (h:w.cell? ⟨b,6,none⟩=some (.map (some M))):Calls Tryz.prog 48 #[.pointer (some ⟨b,0,none⟩)] w fun e w'=>e= .returned (.bool true)/\w'=w:=by
 have hne:(binOp .neq 62 (.map (some M)) (.map none)).run Tryz.prog w= .ok (.bool true) w:=Go.run_neq_map_nil (P:=Tryz.prog) w 62 _ _ (some M) Tryz.underlying62;go_in;exact zz20
theorem zf4 (b M:Nat) (s:ByteArray) (w:World) (h:w.cell? ⟨b,6,none⟩=some (.map (some M))) (h0:w.cell? ⟨b,0,none⟩=some (.string s)):Calls Tryz.prog 23 #[.pointer (some ⟨b,0,none⟩)] w fun e w'=>e= .returned (.string s)/\w'=w:=by
 have HI:=zzH (zfX b M w h);clear h;go_in;go_wp2_with fail;refine HI.out.mono ?_;rintro e w1 ⟨rfl,rfl⟩;exact zz20
def ImgU (w:World) (m M f lo hi:Nat) (u:RUnit):Prop:=
 ∃lo1 lc1 fo1 fc1 go1 gc1 co1 cc1,w.heap[m]?=some (.cells #[.string u.mdl,.int .i64 u.vsn,.slice lo1 u.lits.length lc1,.slice fo1 u.funcs.length fc1,.slice go1 u.funs.length gc1,.slice co1 u.code.length cc1,.map (some M)] 66 (0,0))/\UNew w f lo hi u lo1 fo1 go1 co1
theorem ImgU.kept {w w':World} {m M f lo hi:Nat} {u:RUnit} (h:ImgU w m M f lo hi u) (hm:w'.heap[m]?=w.heap[m]?) (hk: ∀b,lo<=b->b<hi->w'.heap[b]?=w.heap[b]?):ImgU w' m M f lo hi u:=by
 obtain⟨lo1,lc1,fo1,fc1,go1,gc1,co1,cc1,h1,h2⟩:=h;exact⟨lo1,lc1,fo1,fc1,go1,gc1,co1,cc1,hm.trans h1,h2.kept hk (zzL _) (zzL _)⟩
theorem zey (m M f lo hi:Nat) (u:RUnit) (w w0:World) (lo0 fo0 go0 co0:zzA) (h:ImgU w m M f lo hi u) (h0:UP w0 u lo0 fo0 go0 co0) (hcap:zR (u.lits.map (zv f))+u.lits.length<=1000000) (hl:zeI u):
  Calls Tryz.prog 21 #[.pointer (some ⟨m,0,none⟩)] w fun e w'=>(∃lo' lc' fo' fc' go' gc' co' cc',e= .returned (.agg (zzu u lo' lc' fo' fc' go' gc' co' cc'))/\UNew w' f (w.heap.size+1) w'.heap.size u lo' fo' go' co')/\Below w.heap.size w w':=by
 unfold zzu;obtain⟨lo1,lc1,fo1,fc1,go1,gc1,co1,cc1,h1,h2⟩:=h;have hb:=(zzR w.heap.size w).alloc (zzL _) (.cells #[.string ⟨#[]⟩,.int .i64 0,.slice none 0 0,.slice none 0 0,.slice none 0 0,.slice none 0 0] 27);have hn:=zzF w (.cells #[.string ⟨#[]⟩,.int .i64 0,.slice none 0 0,.slice none 0 0,.slice none 0 0,.slice none 0 0] 27);have hs:(w.alloc (.cells #[.string ⟨#[]⟩,.int .i64 0,.slice none 0 0,.slice none 0 0,.slice none 0 0,.slice none 0 0] 27)).heap.size=w.heap.size+1:=by simp
 go_in;go_upto_region 1 with fail;generalize w.alloc _=W at *;have hm:=(hb.block m (zb h1)).trans h1;obtain⟨c0,c1,c2,c3,c4,c5,c6⟩:=zc9 hm;have hup:UP W u lo1 fo1 go1 co1:=(h2.up h0).below hb
 have hlit:SlAt W 9 (TmAt W f) lo1 u.lits:=by
  obtain⟨m1,m2,m3,-,-,-,-,g1,-,-,-⟩:=h2;exact(g1.at fun _ _ _ _ h=>h.at).mono hb fun _ _ h=>h.below hb
 refine zzK5 (zfX m M W c6) (zev f u lo1 fo1 go1 co1 lc1 fc1 gc1 cc1 W hup hlit hcap hl) hb hn hs fun HI HC HB HN HS=>?_;clear hb hn hs hm hup hlit h1 h2 h0 hcap hl;go_wp2_with fail;refine HI.out.mono ?_;rintro e w1 ⟨rfl,rfl⟩;go_upto_region 3 with fail;go_wp2_with (first|(go_at_call 46;refine HC.out.mono ?_;rintro e w2 ⟨⟨lo',lc',fo',fc',go',gc',co',cc',rfl,hun⟩,hb2⟩;have HUN:=zzH hun;have HB2:=zzH hb2;clear hun hb2)|(refine wpList_store_row rfl 27 (.tmp 2) (.tmp 12) rfl w.heap.size #[.string u.mdl,.int .i64 u.vsn,.slice lo' u.lits.length lc',.slice fo' u.funcs.length fc',.slice go' u.funs.length gc',.slice co' u.code.length cc'] rfl rfl 27 _ ((HB2.out.block _ (zb HN.out)).trans HN.out) (by kernel_rfl) rfl (by simp [Value.oneCell']) ?_;refine Hid.out ?_));unfold Hid;have hr3:=setRow_heap w2 w.heap.size _ #[.string u.mdl,.int .i64 u.vsn,.slice lo' u.lits.length lc',.slice fo' u.funcs.length fc',.slice go' u.funs.length gc',.slice co' u.code.length cc'] _ _ ((HB2.out.block _ (zb HN.out)).trans HN.out);have hk3: ∀b,b≠w.heap.size->(w2.setRow w.heap.size #[.string u.mdl,.int .i64 u.vsn,.slice lo' u.lits.length lc',.slice fo' u.funcs.length fc',.slice go' u.funs.length gc',.slice co' u.code.length cc']).heap[b]?=w2.heap[b]?:=fun b hb=>setRow_other _ _ _ _ hb
 have hs3:(w2.setRow w.heap.size #[.string u.mdl,.int .i64 u.vsn,.slice lo' u.lits.length lc',.slice fo' u.funcs.length fc',.slice go' u.funs.length gc',.slice co' u.code.length cc']).heap.size=w2.heap.size:=by simp [World.setRow]
 have hb3:Below w.heap.size w (w2.setRow w.heap.size #[.string u.mdl,.int .i64 u.vsn,.slice lo' u.lits.length lc',.slice fo' u.funcs.length fc',.slice go' u.funs.length gc',.slice co' u.code.length cc']):=below_setRow (HB.out.trans (HB2.out.mono HB.out.size)) (zzL _) _;generalize w2.setRow w.heap.size #[.string u.mdl,.int .i64 u.vsn,.slice lo' u.lits.length lc',.slice fo' u.funcs.length fc',.slice go' u.funs.length gc',.slice co' u.code.length cc']=w3 at *;refine wpList_nil ?_;go_wp2_with fail;refine zzj (results_cell_row rfl _ _ w.heap.size _ _ _ _ rfl hr3 Tryz.underlying27 rfl (by kernel_rfl)) rfl ?_;refine⟨⟨lo',lc',fo',fc',go',gc',co',cc',rfl,?_⟩,hb3⟩;rw [<-HS.out];exact HUN.out.kept (fun b b1 b2=>hk3 b (by have:=HS.out;omega)) (zzL _) (by rw [hs3];exact zzL _)
end Go.Proofs.YtepjanajflkakaaGreatDoor
