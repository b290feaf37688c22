/- the law: for every input it returns true; no condition but that the inputs can be read -/
import Derived.Test.YthajedcbgnloeaaGreatDoorCards
import Derived.Test.YthajedcbgnloeaaGreatDoorTie
import Derived.Test.YthajedcbgnloeaaGreatDoorW22
namespace Go.Proofs.YthajedcbgnloeaaGreatDoor
open Go.RowKit
set_option linter.unusedVariables false
set_option linter.unusedSimpArgs false
set_option maxRecDepth 100000
set_option maxHeartbeats 0
theorem zmN {w:World} {sb n:Nat} {S:Nat->Option VSt} {M:Nat->Option VM} {ps:Array Value} {far:Nat->Prop} (h:FoundAt w sb n S ps far) (he: ∀j,j<n->S j=stM M j):OutAt w sb n n M:=
 ⟨ps,h.row,h.size,fun k hk=>by
  have h1:=he k hk;unfold stM at h1
  cases hM:M k with
  |none=>
   rw [hM]at h1;exact⟨_,h.non k hk h1,fun _=>rfl,fun h=>absurd hk (Nat.not_lt.2 h)⟩
  |some m=>
   rw [hM]at h1;obtain⟨b,h2,-,h3⟩:=h.one k hk m.st h1;exact⟨_,h2,fun _=>⟨b,rfl,h3⟩,fun h=>absurd hk (Nat.not_lt.2 h)⟩⟩
def zft (f:Nat) (u:RUnit) (w:World) (e:Ending) (w':World):Prop:=
 ∃oo ol oc,e= .returned (.tuple #[.slice oo ol oc,.int .i64 (zbT f u)])/\(zbT f u≠0->oo=none/\ol=0/\oc=0) /\
  (zbT f u=0-> ∃ob,oo=some ⟨ob,0,none⟩/\ol=u.code.length/\OutAt w' ob u.code.length u.code.length (zbO u).2)
theorem zki (f:Nat) (u:RUnit) (lo fo go co:zzA) (lc fc gc cc:Nat) (w:World) (h:ChkAt w f u lo fo go co):
  Calls Tryz.prog 10 #[.agg (zzu u lo lc fo fc go gc co cc)] w fun e w'=>zft (f+1) u w e w'/\Below w.heap.size w w':=by
 unfold zzu;have hA:=zzF w (.cells #[.string u.mdl,.int .i64 u.vsn,.slice lo u.lits.length lc,.slice fo u.funcs.length fc,.slice go u.funs.length gc,.slice co u.code.length cc] 27);have hba:Below w.heap.size w (w.alloc (.cells (zzu u lo lc fo fc go gc co cc) 27)):=zzE _ _;have hc:=h.below hba;obtain⟨V,hV⟩: ∃V,V=zcG (f+1) u:=⟨_,rfl⟩
 have hSE:zbT (f+1) u=V.2:=by
  rw [hV];unfold zbT zcG;split<;>rfl
 obtain⟨SE,hse⟩: ∃SE,SE=zbT (f+1) u:=⟨_,rfl⟩;obtain⟨QQ,hQQ⟩: ∃QQ,QQ=zft (f+1) u w:=⟨_,rfl⟩;rw [<-hQQ];have HQQ:=zzH hQQ;have HV:=zzH hV;have HSE:Hid (SE=V.2):=zzH (hse.trans hSE);have HSS:=zzH hse;clear hV h hSE hse hQQ;go_in;go_upto_region 1 with fail;generalize w.alloc (.cells (zzu u lo lc fo fc go gc co cc) 27)=W at *;refine zzK3 hba hA hc fun HBA HA HC=>?_;obtain⟨c0,c1,c2,c3,c4,c5⟩:=zV hA;have HCK:=zzH (zhr f u lo fo go co lc fc gc cc W hc);clear hba hA hc;rw [<-HV.out]at HCK;obtain⟨V1,V2⟩:=V;go_wp2_with fail;refine HCK.out.mono ?_;rintro e w1 ⟨rfl,hb1⟩;refine zzK3 ((hb1.block _ (zd HA.out)).trans HA.out) (ze HBA.out hb1) (HC.out.up.below hb1) fun HA1 HB1 HU1=>?_;clear hb1 HCK c0 c1 c2 c3 c4 c5;by_cases h0:V2=0
 ·have hs0:zbT (f+1) u=0:=by rw [<-HSS.out,HSE.out];exact h0
  have hcz:zbt (f+1) u=0:=by
   unfold zbT at hs0;by_cases c:zbt (f+1) u=0
   ·exact c
   ·rw [if_pos c]at hs0;exact absurd hs0 c
  have hez:(zbO u).1.2=0:=by
   unfold zbT at hs0;rw [if_neg (fun h=>h hcz)]at hs0;exact hs0
  have hlaw:=zjn (zi4 (zd6 hcz));have HEX:=zzH (zfY u lo fo go co lc fc gc cc w1 HU1.out (zd6 hcz) (zkE hcz));have HKZ:Hid ((zbQ u).1.2=0):=zzH (by rw [hlaw.1];exact hez);have HLAW:=zzH (hlaw.2 hez);have HS0:=zzH hs0;obtain⟨c0,c1,c2,c3,c4,c5⟩:=zV HA1.out;subst h0;clear hcz hez hlaw hs0;go_wp2_with fail;refine HEX.out.mono ?_;rintro e w2 ⟨⟨pv,rfl,-,hq,-⟩,hb2⟩;obtain⟨sb,ps,far,rfl,hf⟩:=hq HKZ.out;have HB2:=zzH (ze HB1.out hb2);have HF:=zzH hf;clear hb2 hq hf HEX c0 c1 c2 c3 c4 c5;go_wp2;go_ret2;rw [HQQ.out];unfold zft;rw [HS0.out];exact⟨⟨_,_,_,rfl,fun h=>absurd rfl h,fun _=>⟨sb,rfl,rfl,zmN HF.out HLAW.out⟩⟩,HB2.out⟩
 ·have u1 : (V2 != 0) = true := by simpa using h0
  have HNE:Hid (zbT (f+1) u≠0):=zzH (by rw [<-HSS.out,HSE.out];exact h0);have HV2:Hid (zbT (f+1) u=V2):=zzH (by rw [<-HSS.out,HSE.out]);clear h0;go_wp2;go_ret2;rw [HQQ.out];unfold zft;rw [<-HV2.out];exact⟨⟨none,0,0,rfl,fun _=>⟨rfl,rfl,rfl⟩,fun h=>absurd h HNE.out⟩,HB1.out⟩
abbrev S16 (oa ob k p q:Nat) (s:VSt) (xo1 yo1 to1:Option Addr) (xc1 yc1 tc1:Nat) (xo2 yo2 to2:Option Addr) (xc2 yc2 tc2:Nat) (w:World):Prop:=
 w.cell? ⟨oa,k,none⟩=some (.pointer (some ⟨p,0,none⟩))/\w.cell? ⟨ob,k,none⟩=some (.pointer (some ⟨q,0,none⟩))/\zzrS w p s xo1 xc1 yo1 yc1 to1 tc1 (zzrSt w q s xo2 xc2 yo2 yc2 to2 tc2)
theorem OutAt.one {w:World} {ob n:Nat} {M:Nat->Option VM} (h:OutAt w ob n n M) {k:Nat} (hk:k<n): ∃pv,w.cell? ⟨ob,k,none⟩=some pv/\OutOne w pv (M k):=by
 obtain⟨cs,hr,hs,ha⟩:=h;obtain⟨pv,e,h1,h2⟩:=ha k hk;exact⟨pv,by rw [zzq0 _ _ _ _ _ _ hr];exact e,h1 hk⟩
theorem CsAt.seven {w:World} {b:Nat} {s:VSt} (h:CsAt w b s): ∃xo xc yo yc to' tc,b<w.heap.size/\(zzrSt w b s xo xc yo yc to' tc)/\StLs w s xo xc yo yc to' tc:=by
 obtain⟨xo,xc,yo,yc,to',tc,hr,hl⟩:=h;exact⟨xo,xc,yo,yc,to',tc,zd hr,zN hr,hl⟩
theorem ziD (u:RUnit) (lo fo go co:zzA) (lc fc gc cc:Nat) (w:World) (hup:UP w u lo fo go co) (hrows:RowsAt w) (hsp:SpaceAt w) (hnm: ∀x∈u.code,x.name.size<=140737488355328):
  Calls Tryz.prog 4 #[.agg (zzu u lo lc fo fc go gc co cc)] w fun e w'=>e= .returned (.bool true)/\Below w.heap.size w w':=by
 unfold zzu;have hA:=zzF w (.cells #[.string u.mdl,.int .i64 u.vsn,.slice lo u.lits.length lc,.slice fo u.funcs.length fc,.slice go u.funs.length gc,.slice co u.code.length cc] 27);have hb:Below w.heap.size w (w.alloc (.cells (zzu u lo lc fo fc go gc co cc) 27)):=zzE _ _;refine zzK6 hA hb hup hrows hsp hnm fun HA HB HU HR HS HN=>?_;clear hA hb hup hrows hsp hnm;have HAW:=zzH (fun(wx:World) (hx:Below w.heap.size w wx)=>(zg7 wx (HR.out.below hx) (HS.out.below hx)).mono fun e w' (h:e= .returned (.bool true)/\Below wx.heap.size wx w')=>(show e= .returned (.bool true)/\Hid (Below w.heap.size w w')from⟨h.1,zzH (ze hx h.2)⟩));go_in;go_upto_region 1 with fail;generalize w.alloc _=W at *;obtain⟨c0,c1,c2,c3,c4,c5⟩:=zV HA.out;have hUP:=HU.out.below HB.out;have HLA:=zzH (zhv u lo fo go co lc fc gc cc W hUP);go_wp2_with fail;refine HLA.out.mono ?_;rintro e w1 ⟨b,rfl,hb1,hlit⟩;have HW1:=zzH (ze (w:=w) HB.out hb1);have HA1:=zzH ((hb1.block _ (zd HA.out)).trans HA.out);have hUP1:=hUP.below hb1;have HUP1:=zzH hUP1;have HLT:Hid (b=false-> ∃f,SlAt w1 9 (TmAt w1 f) lo u.lits/\0<=zbG f u.lits 3000):=zzH (fun e=>by obtain⟨f,h1,h2⟩:=hlit e;exact⟨f,h1.tms hb1,h2⟩);clear hlit hb1 hUP hUP1 HLA c0 c1 c2 c3 c4 c5
 cases b with
 |true=>
  exact zz194
 |false=>
  obtain⟨f0,hl0,hl1⟩:=HLT.out rfl;obtain⟨f,hl2,hcap⟩:=zky hl0 hl1;have HLIT:=zzH (zzI hl2 hcap);clear hl0 hl1 hl2 hcap HLT;obtain⟨c0,c1,c2,c3,c4,c5⟩:=zV HA1.out;have hCK:ChkAt w1 f u lo fo go co:=⟨HR.out.below HW1.out,HS.out.below HW1.out,HUP1.out,HLIT.out.1,HLIT.out.2,HN.out⟩;have HCK:=zzH hCK;have HV:=zzH (zjZ f u lo fo go co lc fc gc cc w1 hCK);clear hCK;go_wp2_with fail;refine HV.out.mono ?_;rintro e w2 ⟨⟨oo,ol,oc,rfl,hn0,hy0⟩,hb2⟩;refine zzK3 (ze HW1.out hb2) hn0 hy0 fun HW2 HN0 HY0=>?_;obtain⟨d0,d1,d2,d3,d4,d5⟩:=zV ((hb2.block _ (zd HA1.out)).trans HA1.out);have HRV2:=zzH (zki f u lo fo go co lc fc gc cc w2 (HCK.out.below hb2));clear hb2 HV hn0 hy0 c0 c1 c2 c3 c4 c5;go_wp2_with fail;refine HRV2.out.mono ?_;rintro e w3 ⟨⟨oo2,ol2,oc2,rfl,hn1,hy1⟩,hb3⟩;refine zzK4 (ze HW2.out hb3) hb3 hn1 hy1 fun HW3 HB3 HN1 HY1=>?_;clear hb3 HRV2 hn1 hy1 d0 d1 d2 d3 d4 d5;obtain⟨SE,hSE⟩: ∃SE,SE=zbT (f+1) u:=⟨_,rfl⟩;rw [<-hSE]at HN0 HY0 HN1 HY1 ⊢;clear hSE;have u1 : (SE != SE) = false := by simp
  by_cases h0:SE=0
  case neg=>
   as_aux_lemma=>
   obtain⟨rfl,rfl,rfl⟩:=HN0.out h0;obtain⟨rfl,rfl,rfl⟩:=HN1.out h0;clear h0;go_wp2_with fail;go_loopw [7] (fun iv wr=>iv= .int .i64 0/\wr=w3) (fun _ _=>0)
   case atStart=>exact⟨rfl,rfl⟩
   case round=>
    obtain⟨rfl,rfl⟩:=hrel;exact zz195
  obtain⟨oa,rfl,rfl,-,hoa,hol⟩:=HY0.out h0;obtain⟨ob,rfl,rfl,hob⟩:=HY1.out h0;refine zzK3 (hoa.below HB3.out) hob hol fun HA HB HL=>?_;clear hoa hob hol HN0 HY0 HN1 HY1 h0;obtain⟨M,hM⟩: ∃M,M=(zbO u).2:=⟨_,rfl⟩;rw [<-hM]at HA HB HL;clear hM;have r4:=HUP1.out.codeLen;generalize u.code.length=n at *;go_wp2_with fail;go_loopw [7] (fun iv wr=> ∃k:Nat,k<=n/\iv= .int .i64 k/\Hid (Below w3.heap.size w3 wr)) (fun iv _=>n-(intOf iv).toNat)
  case atStart=>exact⟨0,zzZ _,rfl,zzH (zzR _ _)⟩
  case round=>
   obtain⟨k,hk,rfl,HW⟩:=hrel;rename World=>wr
   by_cases hlt:k<n
   ·obtain⟨pa,ea,oa1⟩:=(HA.out.below HW.out).one hlt
    obtain⟨pb,eb,ob1⟩:=(HB.out.below HW.out).one hlt;have hk0:(0:Int)<=(k:Int):=by omega
    have hk1:(k:Int)<(n:Int):=by omega
    cases hM:M k with
    |none=>
     rw [hM]at oa1 ob1;obtain rfl:pa= .pointer none:=oa1;obtain rfl:pb= .pointer none:=ob1;clear hM;go_wp2_with fail;go_quiet (fail);go_wp2_with fail;refine⟨⟨k+1,hlt,by go_num,zzH (zm HW.out _)⟩,by simp [intOf];omega⟩
    |some m=>
     rw [hM]at oa1 ob1;obtain⟨p,rfl,hp⟩:=oa1;obtain⟨q,rfl,hq⟩:=ob1;have hlen:=HL.out k m hM;have lo:=World.block_lt_of_cell? wr _ ea;have lb:=World.block_lt_of_cell? wr _ eb;generalize m.st=s at *;obtain⟨xo1,xc1,yo1,yc1,to1,tc1,lp,P1,L1⟩:=hp.seven;obtain⟨xo2,xc2,yo2,yc2,to2,tc2,lq,P2,L2⟩:=hq.seven
     have HS:Hid (∀wx,Below wr.heap.size wr wx->S16 oa ob k p q s xo1 yo1 to1 xc1 yc1 tc1 xo2 yo2 to2 xc2 yc2 tc2 wx):=zzH fun wx hx=>by
      have kk: ∀b i v,b<wr.heap.size->wr.cell? ⟨b,i,none⟩=some v->wx.cell? ⟨b,i,none⟩=some v:=fun b i v hb h=>(hx.cell (p:=⟨b,i,none⟩) hb).trans h
      obtain⟨a0,a1,a2,a3,a4,a5,a6⟩:=P1;obtain⟨b0,b1,b2,b3,b4,b5,b6⟩:=P2;exact⟨kk _ _ _ lo ea,kk _ _ _ lb eb,kk _ _ _ lp a0,kk _ _ _ lp a1,kk _ _ _ lp a2,kk _ _ _ lp a3,kk _ _ _ lp a4,kk _ _ _ lp a5,kk _ _ _ lp a6,kk _ _ _ lq b0,kk _ _ _ lq b1,kk _ _ _ lq b2,kk _ _ _ lq b3,kk _ _ _ lq b4,kk _ _ _ lq b5,kk _ _ _ lq b6⟩
     have hd:Below wr.heap.size wr wr.drew:=(zzR _ _).drew;have K1:Hid (S16 oa ob k p q s xo1 yo1 to1 xc1 yc1 tc1 xo2 yo2 to2 xc2 yc2 tc2 wr.drew):=zzH (HS.out _ hd)
     have HC:Hid (Calls Tryz.prog 11 #[.agg #[.int .i64 s.frame,.slice xo1 s.x.length xc1,.slice yo1 s.y.length yc1,.slice to1 s.tries.length tc1,.bool s.mt,.int .i64 s.recv,.int .i64 s.frm],.agg #[.int .i64 s.frame,.slice xo2 s.x.length xc2,.slice yo2 s.y.length yc2,.slice to2 s.tries.length tc2,.bool s.mt,.int .i64 s.recv,.int .i64 s.frm]] wr.drew fun e w5=>e= .returned (.bool true)/\Hid (S16 oa ob k p q s xo1 yo1 to1 xc1 yc1 tc1 xo2 yo2 to2 xc2 yc2 tc2 w5)/\Hid (Below w3.heap.size w3 w5)):=zzH (by
      refine(zln s xo1 yo1 to1 xo2 yo2 to2 xc1 yc1 tc1 xc2 yc2 tc2 wr.drew (L1.below hd) (L2.below hd) hlen).mono ?_;rintro e w5 ⟨rfl,h5⟩;have h5':=hd.trans h5;exact⟨rfl,zzH (HS.out _ h5'),zzH (ze HW.out h5')⟩)
     clear HS hd P1 P2 L1 L2 hp hq hM hlen lp lq lo lb ea eb;go_upto_region 10 with fail;go_region_held3 (fun w=>w.cell? ⟨oa,k,none⟩=some (.pointer (some ⟨p,0,none⟩))/\w.cell? ⟨ob,k,none⟩=some (.pointer (some ⟨q,0,none⟩))/\w.cell? ⟨p,0,none⟩=some (.int .i64 s.frame)/\w.cell? ⟨p,1,none⟩=some (.slice xo1 s.x.length xc1)/\w.cell? ⟨p,2,none⟩=some (.slice yo1 s.y.length yc1)/\w.cell? ⟨p,3,none⟩=some (.slice to1 s.tries.length tc1)/\w.cell? ⟨p,4,none⟩=some (.bool s.mt)/\w.cell? ⟨p,5,none⟩=some (.int .i64 s.recv)/\w.cell? ⟨p,6,none⟩=some (.int .i64 s.frm)/\w.cell? ⟨q,0,none⟩=some (.int .i64 s.frame)/\w.cell? ⟨q,1,none⟩=some (.slice xo2 s.x.length xc2)/\w.cell? ⟨q,2,none⟩=some (.slice yo2 s.y.length yc2)/\w.cell? ⟨q,3,none⟩=some (.slice to2 s.tries.length tc2)/\w.cell? ⟨q,4,none⟩=some (.bool s.mt)/\w.cell? ⟨q,5,none⟩=some (.int .i64 s.recv)/\w.cell? ⟨q,6,none⟩=some (.int .i64 s.frm)) (first|with_reducible exact K1.out|with_reducible exact K5.out) (first|(go_at_call 11;(with_reducible refine HC.out.mono ?_);rintro e w5 ⟨rfl,K5,HB5⟩))
     all_goals
      go_wp2_with fail;refine⟨⟨k+1,hlt,by go_num,HB5⟩,by simp [intOf];omega⟩
   ·obtain rfl:k=n:=by omega
    go_wp2_with fail;refine(HAW.out _ (ze HW3.out HW.out)).mono ?_;rintro e wz ⟨rfl,HFZ⟩;go_wp2;go_ret;exact⟨rfl,HFZ.out⟩
open Go.ChangeShapes Go.WideShapes Go.ChangeAt Go.RowKit
open Go.ChangeMaps (open_string shut_string)
open Go.Proofs.YthajedcbgnloeaaGreatDoor
theorem own:ownKnob Tryz.prog.godebug=none:=by kernel_rfl
theorem laidOut:laidOutB Tryz.prog=true:=by kernel_rfl
theorem laid_met (os:Os):laidMet Tryz.prog Rows.verifyStatesRow.laid ((zd7 os).forCall (fun _ _=>0) ⟨#[],#[.agg #[.string ByteArray.empty,.int .i64 0,.slice none 0 0,.slice none 0 0,.slice none 0 0,.slice none 0 0]],[]⟩).memory:=
 laidMet_of_run3 8 (by kernel_rfl) (by kernel_rfl) (by kernel_rfl)
theorem reads (os:Os) {H:Type} (enc:TypeId × Value->H): ∃ds places,DataW.whole enc Tryz.prog ((zd7 os).forCall (fun _ _=>0) ⟨#[],#[.agg #[.string ByteArray.empty,.int .i64 0,.slice none 0 0,.slice none 0 0,.slice none 0 0,.slice none 0 0]],[]⟩).memory Tryz.f4.params.toList Rows.verifyStatesSpec.vars false (#[.agg #[.string ByteArray.empty,.int .i64 0,.slice none 0 0,.slice none 0 0,.slice none 0 0,.slice none 0 0]]:Array Value).toList 8=some (ds,[],places):=
 ⟨[.agg [.lit (.string []),.lit (.int .i64 0),.nil,.nil,.nil,.nil]],[],by kernel_rfl⟩
theorem lifted (os:Os) (started:os.Started) (H:Type) (enc:TypeId × Value->H) (F:Stop.Interp):
  ReturnsInHanded {} Tryz.checked os 4 .any ((OpenSpec.ofChange Rows.verifyStatesSpec).preRow enc Tryz.prog Tryz.f4 Rows.verifyStatesRow.domain false Rows.verifyStatesRow.laid) (((OpenSpec.ofChange Rows.verifyStatesSpec).at F).post enc Tryz.prog Tryz.f4 false true false false):=by
 obtain⟨ds0,places,hx⟩:=reads os enc
 refine returnsInHanded_of_row (C:=Tryz.checked) (s:=OpenSpec.ofChange Rows.verifyStatesSpec) own started (by kernel_rfl) Tryz.func4
  (witness_row_atRef (enc:=enc) (C:=Tryz.checked) false (zd7 os) #[.agg #[.string ByteArray.empty,.int .i64 0,.slice none 0 0,.slice none 0 0,.slice none 0 0,.slice none 0 0]] rfl (by kernel_rfl) (by kernel_rfl) (by kernel_rfl)
   (OpenSpec.preRow_of_cond 8 hx (by kernel_rfl) (fun k hk=>by cases hk) (by kernel_rfl) (laid_met os))) ?_
 intro W base args ds gs before hval0 hW _ _ hsz hL _ _;have hval: ∀(j:Nat) t v,Tryz.f4.params[j]?=some t->args[j]?=some v->Value.okWide Tryz.prog W .any base t v:=hval0
 have hW':=hW;obtain⟨p,q,hA0,hV,rfl,hfz,hnd⟩:=hW;have hA:DataW.TrodAll enc Tryz.prog W 0 (fun _=>true) true Tryz.f4.params.toList args.toList ds p:=hA0;rw [Tryz.params4]at hA hval hsz;obtain⟨v0,vs0,d0,ds0,p0,q0,hargs,rfl,rfl,h0,r0⟩:=trodAll_cons hA;obtain⟨rfl,rfl,rfl⟩:=trodAll_nil r0;obtain rfl:args=#[v0]:=by cases args;simp_all
 obtain⟨rfl,rfl⟩:=trodVars_none hV;have k0:=h0;obtain⟨u0,lo0,fo0,go0,co0,lc0,fc0,gc0,cc0,rfl,hup0,hnm0⟩:=zh8 (hval 0 27 v0 rfl rfl) h0 (zgs _ _ hsz 0 _ _ rfl rfl);clear hA0 hval0;simp only [List.append_nil,List.nil_append]at hW';refine(ziD u0 lo0 fo0 go0 co0 lc0 fc0 gc0 cc0 W hup0 (zkG hL (.tail _ (.tail _ (.head _)))) (zix hL) (fun x hx=>zzY (hnm0 x hx) (by decide))).mono fun e W' ⟨he,bel⟩=>?_
 subst he;exact⟨_,rfl,_,_,_,[],_,[],hW',trodAll_mk1 (shut_bool Tryz.underlying4 _),(trodAll_cons_mk (Below.trod laidOut (by kernel_rfl) (zza (by kernel_rfl)) k0 bel (fun x hx=>by first|exact absurd hx List.not_mem_nil|simpa using hW'.lt x (by simp [hx]))) trodAll_mk0),rfl,bel.frame _,fun h=>by cases h⟩
theorem said:Rows.VerifyStatesSaid:=
 OpenClaim.holds_of_cond 4 Tryz.f4 rfl rfl rfl rfl rfl rfl rfl ⟨rfl,rfl,rfl,rfl,rfl⟩ rfl rfl rfl rfl rfl (by kernel_rfl) Tryz.func4 (by kernel_rfl)
  (zza (by kernel_rfl)) (by unfold Func.isWrapper;first|(rw [if_pos (by decide +kernel)];kernel_rfl)|(rw [if_neg (by decide +kernel)];exact⟨rfl,rfl⟩))
  (fun os started H enc _ F=>by rw [OpenClaim.pre_eq_preRow];exact lifted os started H enc F)
theorem plain (f:FuncId) (fn:Func) (hf:Tryz.pinned.checked.prog.funcNamed "stagehand/stagehandlaw18.VerifyStates" =some f) (hfn:Tryz.pinned.checked.prog.funcs[f]?=some fn):
  false=Tryz.pinned.checked.prog.looks []/\ ∀(j:Nat) t,fn.params[j]?=some t->Tryz.pinned.checked.prog.wantsStandIn t=false:=by
 obtain rfl:f=4:=zzf ((show Tryz.prog.funcNamed "stagehand/stagehandlaw18.VerifyStates" =some 4 by kernel_rfl).symm.trans hf) |>.symm;obtain rfl:fn=Tryz.f4:=(zzf (Tryz.func4.symm.trans hfn)).symm;refine⟨by kernel_rfl,fun j t ht=>?_⟩;rw [Tryz.params4]at ht;have hm:=Array.mem_of_getElem? ht;have hc:t=27:=by simpa using hm
 subst hc;exact(show Tryz.prog.wantsStandIn 27=false by kernel_rfl)
theorem proved:Rows.VerifyStatesCardSaid:=
 Claim7.holds_tied_plain_at .later [] _ _ _ _ said (fun _ h=>by cases h) (by kernel_rfl) (fun _ h=>by cases h) verifyStates_row_tie rfl ⟨rfl,rfl⟩ (by kernel_rfl) rfl plain (by kernel_rfl)
#print axioms proved
end Go.Proofs.YthajedcbgnloeaaGreatDoor
