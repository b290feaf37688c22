/- the law: for every input it returns true; no condition but that the inputs can be read -/
import Derived.Test.YthajedcbgnloeaaGreatDoorCards
import Derived.Test.YthajedcbgnloeaaGreatDoorTie
import Derived.Test.YthajedcbgnloeaaGreatDoorW22
namespace Go.Proofs.YthajedcbgnloeaaGreatDoor
open Go.RowKit
set_option linter.unusedVariables false
set_option linter.unusedSimpArgs false
set_option maxRecDepth 100000
set_option maxHeartbeats 0
theorem ziB (u:RUnit) (lo fo go co:zzA) (lc fc gc cc:Nat) (w:World) (hup:UP w u lo fo go co) (hrows:RowsAt w) (hsp:SpaceAt w) (hnm: ∀x∈u.code,x.name.size<=140737488355328):
  Calls Tryz.prog 3 #[.agg (zzu u lo lc fo fc go gc co cc)] w fun e w'=>e= .returned (.bool true)/\Below w.heap.size w w':=by
 unfold zzu;have hA:=zzF w (.cells #[.string u.mdl,.int .i64 u.vsn,.slice lo u.lits.length lc,.slice fo u.funcs.length fc,.slice go u.funs.length gc,.slice co u.code.length cc] 27);have hb:Below w.heap.size w (w.alloc (.cells (zzu u lo lc fo fc go gc co cc) 27)):=zzE _ _;refine zzK6 hA hb hup hrows hsp hnm fun HA HB HU HR HS HN=>?_;clear hA hb hup hrows hsp hnm;have HAW:=zzH (fun(wx:World) (hx:Below w.heap.size w wx)=>(zg7 wx (HR.out.below hx) (HS.out.below hx)).mono fun e w' (h:e= .returned (.bool true)/\Below wx.heap.size wx w')=>(show e= .returned (.bool true)/\Hid (Below w.heap.size w w')from⟨h.1,zzH (ze hx h.2)⟩));go_in;go_upto_region 1 with fail;generalize w.alloc _=W at *;obtain⟨c0,c1,c2,c3,c4,c5⟩:=zV HA.out;have hUP:=HU.out.below HB.out;have HLA:=zzH (zhv u lo fo go co lc fc gc cc W hUP);go_wp2_with fail;refine HLA.out.mono ?_;rintro e w1 ⟨b,rfl,hb1,hlit⟩;have HW1:=zzH (ze (w:=w) HB.out hb1);have HA1:=zzH ((hb1.block _ (zd HA.out)).trans HA.out);have hUP1:=hUP.below hb1;have HUP1:=zzH hUP1;have HLT:Hid (b=false-> ∃f,SlAt w1 9 (TmAt w1 f) lo u.lits/\0<=zbG f u.lits 3000):=zzH (fun e=>by obtain⟨f,h1,h2⟩:=hlit e;exact⟨f,h1.tms hb1,h2⟩);clear hlit hb1 hUP hUP1 HLA c0 c1 c2 c3 c4 c5
 cases b with
 |true=>
  exact zz194
 |false=>
  obtain⟨f0,hl0,hl1⟩:=HLT.out rfl;obtain⟨f,hl2,hcap⟩:=zky hl0 hl1;have HLIT:=zzH (zzI hl2 hcap);clear hl0 hl1 hl2 hcap HLT;obtain⟨c0,c1,c2,c3,c4,c5⟩:=zV HA1.out;have HV:=zzH (zhe f u lo fo go co lc fc gc cc w1 ⟨HR.out.below HW1.out,HS.out.below HW1.out,HUP1.out,HLIT.out.1,HLIT.out.2,HN.out⟩);have HRV:=zzH (fun(wx:World) (hx:Below w1.heap.size w1 wx)=>zhr f u lo fo go co lc fc gc cc wx ((⟨HR.out.below HW1.out,HS.out.below HW1.out,HUP1.out,HLIT.out.1,HLIT.out.2,HN.out⟩:ChkAt w1 f u lo fo go co).below hx));generalize zcG (f+1) u=V at *;obtain⟨V1,V2⟩:=V;go_wp2_with fail;refine HV.out.mono ?_;rintro e w2 ⟨rfl,hb2⟩;have HW2:=zzH (ze HW1.out hb2);obtain⟨d0,d1,d2,d3,d4,d5⟩:=zV ((hb2.block _ (zd HA1.out)).trans HA1.out);have HRV2:=zzH (HRV.out w2 hb2);clear hb2 HRV HV c0 c1 c2 c3 c4 c5;go_wp2_with fail;refine HRV2.out.mono ?_;rintro e w3 ⟨rfl,hb3⟩;have HW3:=zzH (ze HW2.out hb3);clear hb3 HRV2;have u1:(V1==V1)=true:=by simp
  have u2:(V2==V2)=true:=by simp
  exact zz195
open Go.ChangeShapes Go.WideShapes Go.ChangeAt Go.RowKit
open Go.ChangeMaps (open_string shut_string)
open Go.Proofs.YthajedcbgnloeaaGreatDoor
theorem own:ownKnob Tryz.prog.godebug=none:=by kernel_rfl
theorem laidOut:laidOutB Tryz.prog=true:=by kernel_rfl
theorem laid_met (os:Os):laidMet Tryz.prog Rows.verifyWheresRow.laid ((zd7 os).forCall (fun _ _=>0) ⟨#[],#[.agg #[.string ByteArray.empty,.int .i64 0,.slice none 0 0,.slice none 0 0,.slice none 0 0,.slice none 0 0]],[]⟩).memory:=
 laidMet_of_run3 8 (by kernel_rfl) (by kernel_rfl) (by kernel_rfl)
theorem reads (os:Os) {H:Type} (enc:TypeId × Value->H): ∃ds places,DataW.whole enc Tryz.prog ((zd7 os).forCall (fun _ _=>0) ⟨#[],#[.agg #[.string ByteArray.empty,.int .i64 0,.slice none 0 0,.slice none 0 0,.slice none 0 0,.slice none 0 0]],[]⟩).memory Tryz.f3.params.toList Rows.verifyWheresSpec.vars false (#[.agg #[.string ByteArray.empty,.int .i64 0,.slice none 0 0,.slice none 0 0,.slice none 0 0,.slice none 0 0]]:Array Value).toList 8=some (ds,[],places):=
 ⟨[.agg [.lit (.string []),.lit (.int .i64 0),.nil,.nil,.nil,.nil]],[],by kernel_rfl⟩
theorem lifted (os:Os) (started:os.Started) (H:Type) (enc:TypeId × Value->H) (F:Stop.Interp):
  ReturnsInHanded {} Tryz.checked os 3 .any ((OpenSpec.ofChange Rows.verifyWheresSpec).preRow enc Tryz.prog Tryz.f3 Rows.verifyWheresRow.domain false Rows.verifyWheresRow.laid) (((OpenSpec.ofChange Rows.verifyWheresSpec).at F).post enc Tryz.prog Tryz.f3 false true false false):=by
 obtain⟨ds0,places,hx⟩:=reads os enc
 refine returnsInHanded_of_row (C:=Tryz.checked) (s:=OpenSpec.ofChange Rows.verifyWheresSpec) own started (by kernel_rfl) Tryz.func3
  (witness_row_atRef (enc:=enc) (C:=Tryz.checked) false (zd7 os) #[.agg #[.string ByteArray.empty,.int .i64 0,.slice none 0 0,.slice none 0 0,.slice none 0 0,.slice none 0 0]] rfl (by kernel_rfl) (by kernel_rfl) (by kernel_rfl)
   (OpenSpec.preRow_of_cond 8 hx (by kernel_rfl) (fun k hk=>by cases hk) (by kernel_rfl) (laid_met os))) ?_
 intro W base args ds gs before hval0 hW _ _ hsz hL _ _;have hval: ∀(j:Nat) t v,Tryz.f3.params[j]?=some t->args[j]?=some v->Value.okWide Tryz.prog W .any base t v:=hval0
 have hW':=hW;obtain⟨p,q,hA0,hV,rfl,hfz,hnd⟩:=hW;have hA:DataW.TrodAll enc Tryz.prog W 0 (fun _=>true) true Tryz.f3.params.toList args.toList ds p:=hA0;rw [Tryz.params3]at hA hval hsz;obtain⟨v0,vs0,d0,ds0,p0,q0,hargs,rfl,rfl,h0,r0⟩:=trodAll_cons hA;obtain⟨rfl,rfl,rfl⟩:=trodAll_nil r0;obtain rfl:args=#[v0]:=by cases args;simp_all
 obtain⟨rfl,rfl⟩:=trodVars_none hV;have k0:=h0;obtain⟨u0,lo0,fo0,go0,co0,lc0,fc0,gc0,cc0,rfl,hup0,hnm0⟩:=zh8 (hval 0 27 v0 rfl rfl) h0 (zgs _ _ hsz 0 _ _ rfl rfl);clear hA0 hval0;simp only [List.append_nil,List.nil_append]at hW';refine(ziB u0 lo0 fo0 go0 co0 lc0 fc0 gc0 cc0 W hup0 (zkG hL (.tail _ (.tail _ (.head _)))) (zix hL) (fun x hx=>zzY (hnm0 x hx) (by decide))).mono fun e W' ⟨he,bel⟩=>?_
 subst he;exact⟨_,rfl,_,_,_,[],_,[],hW',trodAll_mk1 (shut_bool Tryz.underlying4 _),(trodAll_cons_mk (Below.trod laidOut (by kernel_rfl) (zza (by kernel_rfl)) k0 bel (fun x hx=>by first|exact absurd hx List.not_mem_nil|simpa using hW'.lt x (by simp [hx]))) trodAll_mk0),rfl,bel.frame _,fun h=>by cases h⟩
theorem said:Rows.VerifyWheresSaid:=
 OpenClaim.holds_of_cond 3 Tryz.f3 rfl rfl rfl rfl rfl rfl rfl ⟨rfl,rfl,rfl,rfl,rfl⟩ rfl rfl rfl rfl rfl (by kernel_rfl) Tryz.func3 (by kernel_rfl)
  (zza (by kernel_rfl)) (by unfold Func.isWrapper;first|(rw [if_pos (by decide +kernel)];kernel_rfl)|(rw [if_neg (by decide +kernel)];exact⟨rfl,rfl⟩))
  (fun os started H enc _ F=>by rw [OpenClaim.pre_eq_preRow];exact lifted os started H enc F)
theorem plain (f:FuncId) (fn:Func) (hf:Tryz.pinned.checked.prog.funcNamed "stagehand/stagehandlaw18.VerifyWheres" =some f) (hfn:Tryz.pinned.checked.prog.funcs[f]?=some fn):
  false=Tryz.pinned.checked.prog.looks []/\ ∀(j:Nat) t,fn.params[j]?=some t->Tryz.pinned.checked.prog.wantsStandIn t=false:=by
 obtain rfl:f=3:=zzf ((show Tryz.prog.funcNamed "stagehand/stagehandlaw18.VerifyWheres" =some 3 by kernel_rfl).symm.trans hf) |>.symm;obtain rfl:fn=Tryz.f3:=(zzf (Tryz.func3.symm.trans hfn)).symm;refine⟨by kernel_rfl,fun j t ht=>?_⟩;rw [Tryz.params3]at ht;have hm:=Array.mem_of_getElem? ht;have hc:t=27:=by simpa using hm
 subst hc;exact(show Tryz.prog.wantsStandIn 27=false by kernel_rfl)
theorem proved:Rows.VerifyWheresCardSaid:=
 Claim7.holds_tied_plain_at .later [] _ _ _ _ said (fun _ h=>by cases h) (by kernel_rfl) (fun _ h=>by cases h) verifyWheres_row_tie rfl ⟨rfl,rfl⟩ (by kernel_rfl) rfl plain (by kernel_rfl)
#print axioms proved
end Go.Proofs.YthajedcbgnloeaaGreatDoor
