/- the law: for every input it returns true; no condition but that the inputs can be read -/
import Derived.Test.YtponljdhfoipjaaGreatDoorCards
import Derived.Test.YtponljdhfoipjaaGreatDoorTie
import Derived.Test.YtponljdhfoipjaaGreatDoorW16
namespace Go.Proofs.YtponljdhfoipjaaGreatDoor
open Go.RowKit
set_option linter.unusedVariables false
set_option linter.unusedSimpArgs false
set_option maxRecDepth 100000
set_option maxHeartbeats 0
theorem svknown_walk (w:World) (hrows:RowsAt w) (hsp:SpaceAt w):Calls Tryz.prog 3 #[] w fun e w'=>e= .returned (.bool true)/\Below w.heap.size w w':=by
 have HR:=Lib.hid hrows;have HP:=Lib.hid hsp
 clear hrows hsp
 go_in
 go_upto_region 2 with(first|(go_at_call 5;refine(Sv.new w).mono ?_;rintro e w1 ⟨rfl,hs1⟩)|fail)
 have H1:=Lib.hid hs1;clear hs1
 generalize hM:w.heap.size=M at *
 generalize hS:M+1=S at *
 clear hS
 go_upto_region 3 with(first|(go_at_call 7;refine(svunit_any svM svG 2 _ svM_len (by unfold maxLen;decide) (by unfold I64;omega)).mono ?_;rintro e wu ⟨⟨lo,lc,fo,fc,co,cc,rfl,hup,hsl⟩,hb⟩)|(go_at_call 6;refine((H1.out.below hb).loadOk (by decide) svw2 HR.out HP.out hup hsl (by decide) rfl).mono ?_;rintro e w2 ⟨rfl,m2,Mi2,hs2⟩)|fail)
 have H2:=Lib.hid hs2
 clear hs2 hup hsl hb H1
 go_upto_region 4 with(first|(go_at_call 8;refine(H2.out.find rfl svG (by unfold maxLen;decide) (some 0) (by kernel_rfl)).mono ?_;rintro e w3 ⟨rfl,hb⟩)|fail)
 have H3:=Lib.hid (H2.out.below hb)
 clear hb H2
 go_upto_region 5 with(first|(go_at_call 8;refine(H3.out.find rfl svF (by unfold maxLen;decide) none (by kernel_rfl)).mono ?_;rintro e w4 ⟨rfl,hb⟩)|fail)
 have H4:=Lib.hid (H3.out.below hb)
 clear hb H3
 go_upto_region 6 with(first|(go_at_call 7;refine(svunit_any svM svF 1 _ svM_len (by unfold maxLen;decide) (by unfold I64;omega)).mono ?_;rintro e wu ⟨⟨lo,lc,fo,fc,co,cc,rfl,hup,hsl⟩,hb⟩)|(go_at_call 6;refine((H4.out.below hb).loadVsn (by decide) svw1 HR.out HP.out hup hsl (by decide)).mono ?_;rintro e w5 ⟨rfl,hs5⟩)|fail)
 have H5:=Lib.hid hs5
 clear hs5 hup hsl hb H4
 go_upto_region 7 with(first|(go_at_call 7;refine(svunit_any svM svG 2 _ svM_len (by unfold maxLen;decide) (by unfold I64;omega)).mono ?_;rintro e wu ⟨⟨lo,lc,fo,fc,co,cc,rfl,hup,hsl⟩,hb⟩)|(go_at_call 6;refine((H5.out.below hb).loadVsn (by decide) svw2 HR.out HP.out hup hsl (by decide)).mono ?_;rintro e w6 ⟨rfl,hs6⟩)|fail)
 have H6:=Lib.hid hs6
 clear hs6 hup hsl hb H5
 have hv:=H6.out.vsn rfl
 have HV:=Lib.hid hv
 clear hv
 go_upto_region 9 with(first|(go_at_call 9;refine HV.out.mono ?_;rintro e wv ⟨rfl,ev⟩;subst ev)|fail)
 clear HV
 rename World=>w6
 go_upto_region 10 with(first|(go_at_call 7;refine(svunit_any svM svF 3 _ svM_len (by unfold maxLen;decide) (by unfold I64;omega)).mono ?_;rintro e wu ⟨⟨lo,lc,fo,fc,co,cc,rfl,hup,hsl⟩,hb⟩)|(go_at_call 6;refine((H6.out.below hb).loadOk (by decide) svw3 HR.out HP.out hup hsl (by decide) rfl).mono ?_;rintro e w7 ⟨rfl,m7,Mi7,hs7⟩)|fail)
 have H7:=Lib.hid hs7
 clear hs7 hup hsl hb H6
 go_upto_region 11 with(first|(go_at_call 10;refine(H7.out.oldIs rfl).mono ?_;rintro e w8 ⟨rfl,hb⟩)|fail)
 have H8:=Lib.hid (H7.out.below hb)
 clear hb H7
 go_upto_region 12 with(first|(go_at_call 7;refine(svunit_any svM svF 4 _ svM_len (by unfold maxLen;decide) (by unfold I64;omega)).mono ?_;rintro e wu ⟨⟨lo,lc,fo,fc,co,cc,rfl,hup,hsl⟩,hb⟩)|(go_at_call 6;refine((H8.out.below hb).loadOld (by decide) svw4 HR.out HP.out hup hsl (by decide) rfl).mono ?_;rintro e w9 ⟨rfl,hs9⟩)|fail)
 have H9:=Lib.hid hs9
 clear hs9 hup hsl hb H8
 go_upto_region 14 with fail
 go_upto_region 15 with(first|(go_at_call 11;refine(H9.out.purge (by decide) rfl).mono ?_;rintro e w10 ⟨rfl,hs10⟩)|fail)
 have H10:=Lib.hid hs10
 clear hs10 H9
 go_upto_region 16 with(first|(go_at_call 12;refine(H10.out.version (v:=2) (fun x hx=>by obtain rfl:=Option.some.inj hx;exact(show(3:Int)≠2 by decide)) (fun x hx=>by cases hx)).mono ?_;rintro e w11 ⟨rfl,hb⟩)|fail)
 have H11:=Lib.hid (H10.out.below hb)
 clear hb H10
 go_upto_region 17 with(first|(go_at_call 11;refine(H11.out.purgeNo rfl).mono ?_;rintro e w12 ⟨rfl,hb⟩)|fail)
 have H12:=Lib.hid (H11.out.below hb)
 clear hb H11
 go_upto_region 18 with(first|(go_at_call 7;refine(svunit_any svM svF 4 _ svM_len (by unfold maxLen;decide) (by unfold I64;omega)).mono ?_;rintro e wu ⟨⟨lo,lc,fo,fc,co,cc,rfl,hup,hsl⟩,hb⟩)|(go_at_call 6;refine((H12.out.below hb).loadOk (by decide) svw4 HR.out HP.out hup hsl (by decide) rfl).mono ?_;rintro e w13 ⟨rfl,m13,Mi13,hs13⟩)|fail)
 have H13:=Lib.hid hs13
 clear hs13 hup hsl hb H12
 go_upto_region 19 with(first|(go_at_call 13;refine(H13.out.funNo rfl rfl (show(4:Int)≠2 by decide) (show(3:Int)≠2 by decide)).mono ?_;rintro e w14 ⟨rfl,hb⟩)|fail)
 have H14:=Lib.hid (H13.out.below hb)
 clear hb H13
 go_upto_region 20 with(first|(go_at_call 13;refine(H14.out.funArg 2 0 0 0 0 svM ⟨#[]⟩ ⟨#[]⟩ none 0 0 (by decide)).mono ?_;rintro e w15 ⟨rfl,hb⟩)|fail)
 have H15:=Lib.hid (H14.out.below hb)
 clear hb H14
 have HA:=Lib.hid (svawake_any w15 (HR.out.below H15.out.low) (HP.out.below H15.out.low))
 go_wp2_with (first|(go_at_call 14;refine HA.out.mono ?_;rintro e wz ⟨rfl,hz⟩)|fail)
 go_ret
 exact⟨rfl,below_next H15.out.low hz⟩
open Go.ChangeShapes Go.WideShapes Go.ChangeAt Go.RowKit
open Go.ChangeMaps (open_string shut_string)
open Go.Proofs.YtponljdhfoipjaaGreatDoor
theorem own:ownKnob Tryz.prog.godebug=none:=by kernel_rfl
theorem laidOut:laidOutB Tryz.prog=true:=by kernel_rfl
theorem laid_met (os:Os):laidMet Tryz.prog Rows.codesKnownRow.laid ((laidWorld os).forCall (fun _ _=>0) ⟨#[],#[],[]⟩).memory:=
 laidMet_of_run3 8 (by kernel_rfl) (by kernel_rfl) (by kernel_rfl)
theorem reads (os:Os) {H:Type} (enc:TypeId × Value->H): ∃ds places,DataW.whole enc Tryz.prog ((laidWorld os).forCall (fun _ _=>0) ⟨#[],#[],[]⟩).memory Tryz.f3.params.toList Rows.codesKnownSpec.vars false (#[]:Array Value).toList 8=some (ds,[],places):=
 ⟨[],[],by kernel_rfl⟩
theorem lifted (os:Os) (started:os.Started) (H:Type) (enc:TypeId × Value->H) (F:Stop.Interp):
  ReturnsInHanded {} Tryz.checked os 3 .any ((OpenSpec.ofChange Rows.codesKnownSpec).preRow enc Tryz.prog Tryz.f3 Rows.codesKnownRow.domain false Rows.codesKnownRow.laid) (((OpenSpec.ofChange Rows.codesKnownSpec).at F).post enc Tryz.prog Tryz.f3 false true false false):=by
 obtain⟨ds0,places,hx⟩:=reads os enc
 refine returnsInHanded_of_row (C:=Tryz.checked) (s:=OpenSpec.ofChange Rows.codesKnownSpec) own started (by kernel_rfl) Tryz.func3
  (witness_row_atRef (enc:=enc) (C:=Tryz.checked) false (laidWorld os) #[] rfl (by kernel_rfl) (by kernel_rfl) (by kernel_rfl)
   (OpenSpec.preRow_of_cond 8 hx (by kernel_rfl) (fun k hk=>by cases hk) (by kernel_rfl) (laid_met os))) ?_
 intro W base args ds gs before hval0 hW _ _ hsz hL _ _
 have hval: ∀(j:Nat) t v,Tryz.f3.params[j]?=some t->args[j]?=some v->Value.okWide Tryz.prog W .any base t v:=hval0
 have hW':=hW
 obtain⟨p,q,hA0,hV,rfl,hfz,hnd⟩:=hW
 have hA:DataW.TrodAll enc Tryz.prog W 0 (fun _=>true) true Tryz.f3.params.toList args.toList ds p:=hA0
 obtain⟨rfl,rfl,rfl⟩:=trodAll_none hA
 obtain⟨rfl,rfl⟩:=trodVars_none hV
 clear hA0 hval0
 refine(svknown_walk W (rows_at hL (.tail _ (.tail _ (.head _)))) (space_at hL)).mono fun e W' ⟨he,bel⟩=>?_
 subst he
 exact⟨_,rfl,_,_,_,[],_,[],hW',trodAll_mk1 (shut_bool Tryz.underlying4 _),trodAll_mk0,rfl,bel.frame _,fun h=>by cases h⟩
theorem said:Rows.CodesKnownSaid:=
 OpenClaim.holds_of_cond 3 Tryz.f3 rfl rfl rfl rfl rfl rfl rfl ⟨rfl,rfl,rfl,rfl,rfl⟩ rfl rfl rfl rfl rfl (by kernel_rfl) Tryz.func3 (by kernel_rfl)
  (of_decide_eq_true (by kernel_rfl)) (by unfold Func.isWrapper;first|(rw [if_pos (by decide +kernel)];kernel_rfl)|(rw [if_neg (by decide +kernel)];exact⟨rfl,rfl⟩))
  (fun os started H enc _ F=>by rw [OpenClaim.pre_eq_preRow];exact lifted os started H enc F)
theorem plain (f:FuncId) (fn:Func) (hf:Tryz.pinned.checked.prog.funcNamed "stagehand/stagehandlaw27.CodesKnown" =some f) (hfn:Tryz.pinned.checked.prog.funcs[f]?=some fn):
  true=Tryz.pinned.checked.prog.looks []/\ ∀(j:Nat) t,fn.params[j]?=some t->Tryz.pinned.checked.prog.wantsStandIn t=false:=by
 obtain rfl:f=3:=Option.some.inj ((show Tryz.prog.funcNamed "stagehand/stagehandlaw27.CodesKnown" =some 3 by kernel_rfl).symm.trans hf) |>.symm
 obtain rfl:fn=Tryz.f3:=(Option.some.inj (Tryz.func3.symm.trans hfn)).symm
 refine⟨by kernel_rfl,fun j t ht=>?_⟩
 have e:Tryz.f3.params=#[]:=by kernel_rfl
 rw [e]at ht
 simp at ht
theorem proved:Rows.CodesKnownCardSaid:=
 Claim7.holds_tied_plain_at .later [] _ _ _ _ said (fun _ h=>by cases h) (by kernel_rfl) (fun _ h=>by cases h) codesKnown_row_tie rfl ⟨rfl,rfl⟩ (by kernel_rfl) rfl plain (by kernel_rfl)
#print axioms proved
end Go.Proofs.YtponljdhfoipjaaGreatDoor
