/- the law: for every input it returns true; no condition but that the inputs can be read -/
import Derived.Test.YtepjanajflkakaaGreatDoorCards
import Derived.Test.YtepjanajflkakaaGreatDoorTie
import Derived.Test.YtepjanajflkakaaGreatDoorW18
import Derived.Test.YtepjanajflkakaaGreatDoorW19
namespace Go.Proofs.YtepjanajflkakaaGreatDoor
open Go.RowKit
set_option linter.unusedVariables false
set_option linter.unusedSimpArgs false
set_option maxRecDepth 100000
set_option maxHeartbeats 0
theorem zhQ (w:World) (hrows:RowsAt w) (hsp:SpaceAt w):Calls Tryz.prog 10 #[] w fun e w'=>e= .returned (.bool true)/\Below w.heap.size w w':=by
 have HR:=zzH hrows;have HS:=zzH hsp;clear hrows hsp;have HX0:=zzH (zeA 1 w);go_in;go_wp2_with fail;refine HX0.out.mono ?_;rintro e w1 ⟨rfl,hb1⟩;have HX1:=zzH (zeA 0 w1);clear HX0;go_wp2_with fail;refine HX1.out.mono ?_;rintro e w2 ⟨rfl,hb2⟩;have HB2:=zzH (zd hb1 hb2);have HOW:Hid (w.heap.size<=w2.heap.size):=zzH HB2.out.size;clear HX1 hb1 hb2
 obtain⟨h1,h2,h3,hb⟩:=zd4 w2 (.cells #[.int .i64 1,.int .i64 0] 42)
  (.cells #[.int .i64 1,.int .i64 1,.int .i64 1,.slice (some ⟨w2.heap.size,0,none⟩) 1 1,.int .i64 0,.int .i64 0,.int .i64 0,.string ⟨#[]⟩,.slice none 0 0,.slice none 0 0] 47)
  (.cells #[.int .i64 26,.int .i64 0,.int .i64 0,.slice none 0 0,.int .i64 0,.int .i64 0,.int .i64 0,.string ⟨#[]⟩,.slice none 0 0,.slice none 0 0] 47)
 refine zzK4 h1 h2 h3 (zd HB2.out hb) fun H1 H2 H3 HB3=>?_;clear h1 h2 h3 hb HB2;go_upto_region 3 with fail;generalize((w2.alloc _).alloc _).alloc _=W3 at *;generalize hO:w2.heap.size=O at *;have HE:=zzH (zzR W3.heap.size W3);obtain⟨m0,m1,m2,m3,m4,m5,m6,m7,m8,m9⟩:=zcy H2.out;obtain⟨q0,q1,q2,q3,q4,q5,q6,q7,q8,q9⟩:=zcy H3.out;have hba:Below W3.heap.size W3 (W3.alloc (KO12 O)):=zzE _ _;have hone:=((HE.out.block _ (zb H1.out)).trans H1.out);have HU:=zzH (zeL zg0 2 rfl _ 2 (W3.alloc (KO12 O)) (zmv ((hba.block _ (zb hone)).trans hone) (zzF _ _)) (by unfold zg0;simp) (by decide));have HBAw4:=zzH (zd HE.out hba);clear hba hone;go_wp2_with fail;refine HU.out.mono ?_;rintro e w4 ⟨⟨fo12,fc12,co12,cc12,rfl,hup⟩,hb⟩;have HBUw4:=zzH (zd HBAw4.out hb);have HW:=zzH (zeD zg0 2 rfl fo12 co12 fc12 cc12 0 0 w4 (HR.out.below (zd HB3.out HBUw4.out)) (HS.out.below (zd HB3.out HBUw4.out)) hup rfl zmm);clear hup hb HU HBAw4;go_wp2_with fail;refine HW.out.mono ?_;rintro e w5 ⟨rfl,hb⟩;have HBw5:=zzH (zd HBUw4.out hb);clear hb HW HBUw4;clear m0 m1 m2 m3 m4 m5 m6 m7 m8 m9 q0 q1 q2 q3 q4 q5 q6 q7 q8 q9;have HX2:=zzH (zeA 2 w5);go_wp2_with fail;refine HX2.out.mono ?_;rintro e w6 ⟨rfl,hb⟩;have HB6:=zzH (zd HBw5.out hb);clear hb HX2;have hba:Below w6.heap.size w6 (w6.alloc (.cells #[.int .i64 1,.int .i64 2] 42)):=zzE _ _;have hb7:=zd HB6.out hba;have hmv:=(hb7.block _ (zb H2.out)).trans H2.out;have hbk:=(hb7.block _ (zb H3.out)).trans H3.out;have htw:=zzF w6 (.cells #[.int .i64 1,.int .i64 2] 42);have m3:=zzq0 _ _ 3 _ _ _ hmv;have z3:=zzq2 _ _ 3 _ _ hmv;simp only [List.getElem?_toArray,List.getElem?_cons_succ,List.getElem?_cons_zero]at m3;have hl6:O+1<w6.heap.size:=zzW (zb H2.out) HB6.out.size;have hl7:O+1+1<w6.heap.size:=zzW (zb H3.out) HB6.out.size;have G1:Hid (((w6.alloc (.cells #[.int .i64 1,.int .i64 2] 42)).setCell ⟨O+1,3,none⟩ (.slice (some ⟨w6.heap.size,0,none⟩) 1 1)).heap[w6.heap.size]?=some (.cells #[.int .i64 1,.int .i64 2] 42 (0,0))):=zzH ((zzq3 _ _ _ _ (by show w6.heap.size≠O+1;omega)).trans htw)
 have G2:Hid (((w6.alloc (.cells #[.int .i64 1,.int .i64 2] 42)).setCell ⟨O+1,3,none⟩ (.slice (some ⟨w6.heap.size,0,none⟩) 1 1)).heap[O+1]?=some (.cells #[.int .i64 1,.int .i64 1,.int .i64 1,.slice (some ⟨w6.heap.size,0,none⟩) 1 1,.int .i64 0,.int .i64 0,.int .i64 0,.string ⟨#[]⟩,.slice none 0 0,.slice none 0 0] 47 (0,0))):=zzH (zzS _ _ 3 _ _ _ hmv)
 have G3:Hid (((w6.alloc (.cells #[.int .i64 1,.int .i64 2] 42)).setCell ⟨O+1,3,none⟩ (.slice (some ⟨w6.heap.size,0,none⟩) 1 1)).heap[O+1+1]?=some (.cells #[.int .i64 26,.int .i64 0,.int .i64 0,.slice none 0 0,.int .i64 0,.int .i64 0,.int .i64 0,.string ⟨#[]⟩,.slice none 0 0,.slice none 0 0] 47 (0,0))):=zzH ((zzq3 _ _ _ _ (by show O+1+1≠O+1;omega)).trans hbk)
 have HB7:Hid (Below w.heap.size w ((w6.alloc (.cells #[.int .i64 1,.int .i64 2] 42)).setCell ⟨O+1,3,none⟩ (.slice (some ⟨w6.heap.size,0,none⟩) 1 1))):=zzH ((zd HB3.out hb7).setCell (p:=⟨O+1,3,none⟩) (by show w.heap.size<=O+1;have:=HOW.out;omega) _);clear hb7 hmv hbk htw hl6 hl7 hba;go_upto_region 5 with fail;generalize World.setCell _ _ _=W7 at *;generalize hP:w6.heap.size=P at *;clear m3 z3 H1 H2 H3 HB3 HE HB6 HBw5;have HE:=zzH (zzR W7.heap.size W7);obtain⟨m0,m1,m2,m3,m4,m5,m6,m7,m8,m9⟩:=zcy G2.out;obtain⟨q0,q1,q2,q3,q4,q5,q6,q7,q8,q9⟩:=zcy G3.out;have hba:Below W7.heap.size W7 (W7.alloc (KO13 P)):=zzE _ _;have hone:=((HE.out.block _ (zb G1.out)).trans G1.out);have HU:=zzH (zeL zgq 3 rfl _ 3 (W7.alloc (KO13 P)) (zmw ((hba.block _ (zb hone)).trans hone) (zzF _ _)) (by unfold zgq;simp) (by decide));have HBAw8:=zzH (zd HE.out hba);clear hba hone;go_wp2_with fail;refine HU.out.mono ?_;rintro e w8 ⟨⟨fo13,fc13,co13,cc13,rfl,hup⟩,hb⟩;have HBUw8:=zzH (zd HBAw8.out hb);have HW:=zzH (zeD zgq 3 rfl fo13 co13 fc13 cc13 0 0 w8 (HR.out.below (zd HB7.out HBUw8.out)) (HS.out.below (zd HB7.out HBUw8.out)) hup rfl zmh);clear hup hb HU HBAw8;go_wp2_with fail;refine HW.out.mono ?_;rintro e w9 ⟨rfl,hb⟩;have HBw9:=zzH (zd HBUw8.out hb);clear hb HW HBUw8;clear m0 m1 m2 m3 m4 m5 m6 m7 m8 m9 q0 q1 q2 q3 q4 q5 q6 q7 q8 q9;obtain⟨m0,m1,m2,m3,m4,m5,m6,m7,m8,m9⟩:=zcy ((HBw9.out.block _ (zb G2.out)).trans G2.out);obtain⟨q0,q1,q2,q3,q4,q5,q6,q7,q8,q9⟩:=zcy ((HBw9.out.block _ (zb G3.out)).trans G3.out);have hba:Below w9.heap.size w9 (w9.alloc (KO14 P)):=zzE _ _;have hone:=((HBw9.out.block _ (zb G1.out)).trans G1.out);have HU:=zzH (zeL zgs 2 rfl _ 2 (w9.alloc (KO14 P)) (zmp ((hba.block _ (zb hone)).trans hone) (zzF _ _)) (by unfold zgs;simp) (by decide));have HBAw10:=zzH (zd HBw9.out hba);clear hba hone;go_wp2_with fail;refine HU.out.mono ?_;rintro e w10 ⟨⟨fo14,fc14,co14,cc14,rfl,hup⟩,hb⟩;have HBUw10:=zzH (zd HBAw10.out hb);have HW:=zzH (zeD zgs 2 rfl fo14 co14 fc14 cc14 0 186 w10 (HR.out.below (zd HB7.out HBUw10.out)) (HS.out.below (zd HB7.out HBUw10.out)) hup rfl zmf);clear hup hb HU HBAw10;go_wp2_with fail;refine HW.out.mono ?_;rintro e w11 ⟨rfl,hb⟩;have HBw11:=zzH (zd HBUw10.out hb);clear hb HW HBUw10;clear m0 m1 m2 m3 m4 m5 m6 m7 m8 m9 q0 q1 q2 q3 q4 q5 q6 q7 q8 q9;go_wp2;go_ret;exact⟨rfl,(zd HB7.out HBw11.out)⟩
theorem zlS {w:World} {lo:zzA} {l:List Tm} {f:Nat} (h:SlAt w 9 (TmAt w f) lo l) (hp:0<=zbd f l 3000): ∃g,SlAt w 9 (TmAt w (g+1)) lo l/\(∀t∈l,(zv (g+1) t:Int)<=1152921504606846976)/\zR (l.map (zv (g+1)))+l.length<=1000000:=by
 cases f with
 |zero=>obtain rfl:=h.zero;exact⟨0,.inl rfl,(fun t ht=>by cases ht),by decide⟩
 |succ g=>
  have hc:=zgW (w:=w) (g+1) l 3000 (fun x hx=>by
   obtain⟨j,hj,rfl⟩:=List.getElem_of_mem hx;obtain⟨_,_,_,_,hr⟩:=h.row hj;obtain⟨cs',_,_,h'⟩:=hr j hj;exact⟨cs',h'⟩) hp
  refine⟨g,h,fun t ht=>?_,by omega⟩;have hm:=zgf (l.map (zv (g+1))) _ (List.mem_map.2 ⟨t,ht,rfl⟩);omega
theorem zhd (u:RUnit) (lo fo go co:zzA) (lc fc gc cc:Nat) (w:World) (hup:UP w u lo fo go co) (hlb:zeI u) (hrows:RowsAt w) (hsp:SpaceAt w) (hnm: ∀x∈u.code,x.name.size<=140737488355328):
  Calls Tryz.prog 6 #[.agg (zzu u lo lc fo fc go gc co cc)] w fun e w'=>e= .returned (.bool true)/\Below w.heap.size w w':=by
 unfold zzu;obtain⟨f0,hf0⟩:=zdX hup.lits;refine ziD u lo fo go co lc fc gc cc w (fun f=>zcq (f+1) u) hup hlb (fun wx hx=>?_) (fun f lo' fo' go' co' lc' fc' gc' cc' wx hx hu hl hc=>?_) (fun wx hx=>?_)
 ·refine(zjO f0 u lo fo go co lc fc gc cc wx (hup.below hx) (hf0.tms hx)).mono ?_
  rintro e w' ⟨b,h1,h2,h3⟩;exact⟨b,h1,h2,fun hb=>zlS hf0 (h3 hb)⟩
 ·exact zeP f u lo' fo' go' co' lc' fc' gc' cc' wx ⟨hrows.below hx,hsp.below hx,hu,hl,hc,hnm⟩
 ·exact zhQ wx (hrows.below hx) (hsp.below hx)
open Go.ChangeShapes Go.WideShapes Go.ChangeAt Go.RowKit
open Go.ChangeMaps (open_string shut_string)
open Go.Proofs.YtepjanajflkakaaGreatDoor
theorem own:ownKnob Tryz.prog.godebug=none:=by kernel_rfl
theorem laidOut:laidOutB Tryz.prog=true:=by kernel_rfl
theorem laid_met (os:Os):laidMet Tryz.prog Rows.verifyApartRow.laid ((zd7 os).forCall (fun _ _=>0) ⟨#[],#[.agg #[.string ByteArray.empty,.int .i64 0,.slice none 0 0,.slice none 0 0,.slice none 0 0,.slice none 0 0]],[]⟩).memory:=
 laidMet_of_run3 8 (by kernel_rfl) (by kernel_rfl) (by kernel_rfl)
theorem reads (os:Os) {H:Type} (enc:TypeId × Value->H): ∃ds places,DataW.whole enc Tryz.prog ((zd7 os).forCall (fun _ _=>0) ⟨#[],#[.agg #[.string ByteArray.empty,.int .i64 0,.slice none 0 0,.slice none 0 0,.slice none 0 0,.slice none 0 0]],[]⟩).memory Tryz.f6.params.toList Rows.verifyApartSpec.vars false (#[.agg #[.string ByteArray.empty,.int .i64 0,.slice none 0 0,.slice none 0 0,.slice none 0 0,.slice none 0 0]]:Array Value).toList 8=some (ds,[],places):=
 ⟨[.agg [.lit (.string []),.lit (.int .i64 0),.nil,.nil,.nil,.nil]],[],by kernel_rfl⟩
theorem lifted (os:Os) (started:os.Started) (H:Type) (enc:TypeId × Value->H) (F:Stop.Interp):
  ReturnsInHanded {} Tryz.checked os 6 .any ((OpenSpec.ofChange Rows.verifyApartSpec).preRow enc Tryz.prog Tryz.f6 Rows.verifyApartRow.domain false Rows.verifyApartRow.laid) (((OpenSpec.ofChange Rows.verifyApartSpec).at F).post enc Tryz.prog Tryz.f6 false true false false):=by
 obtain⟨ds0,places,hx⟩:=reads os enc
 refine returnsInHanded_of_row (C:=Tryz.checked) (s:=OpenSpec.ofChange Rows.verifyApartSpec) own started (by kernel_rfl) Tryz.func6
  (witness_row_atRef (enc:=enc) (C:=Tryz.checked) false (zd7 os) #[.agg #[.string ByteArray.empty,.int .i64 0,.slice none 0 0,.slice none 0 0,.slice none 0 0,.slice none 0 0]] rfl (by kernel_rfl) (by kernel_rfl) (by kernel_rfl)
   (OpenSpec.preRow_of_cond 8 hx (by kernel_rfl) (fun k hk=>by cases hk) (by kernel_rfl) (laid_met os))) ?_
 intro W base args ds gs before hval0 hW _ _ hsz hL _ _;have hval: ∀(j:Nat) t v,Tryz.f6.params[j]?=some t->args[j]?=some v->Value.okWide Tryz.prog W .any base t v:=hval0
 have hW':=hW;obtain⟨p,q,hA0,hV,rfl,hfz,hnd⟩:=hW;have hA:DataW.TrodAll enc Tryz.prog W 0 (fun _=>true) true Tryz.f6.params.toList args.toList ds p:=hA0;rw [Tryz.params6]at hA hval hsz;obtain⟨v0,vs0,d0,ds0,p0,q0,hargs,rfl,rfl,h0,r0⟩:=trodAll_cons hA;obtain⟨rfl,rfl,rfl⟩:=trodAll_nil r0;obtain rfl:args=#[v0]:=by cases args;simp_all
 obtain⟨rfl,rfl⟩:=trodVars_none hV;have k0:=h0;obtain⟨u0,lo0,fo0,go0,co0,lc0,fc0,gc0,cc0,rfl,hup0,hlb0,hnm0⟩:=zhN (hval 0 27 v0 rfl rfl) h0 (zfq _ _ hsz 0 _ _ rfl rfl);clear hA0 hval0;simp only [List.append_nil,List.nil_append]at hW';refine(zhd u0 lo0 fo0 go0 co0 lc0 fc0 gc0 cc0 W hup0 hlb0 (zlr hL (.tail _ (.tail _ (.head _)))) (zko hL) (fun x hx=>zzY (hnm0 x hx) (by decide))).mono fun e W' ⟨he,bel⟩=>?_
 subst he;exact⟨_,rfl,_,_,_,[],_,[],hW',trodAll_mk1 (shut_bool Tryz.underlying4 _),(trodAll_cons_mk (Below.trod laidOut (by kernel_rfl) (zza (by kernel_rfl)) k0 bel (fun x hx=>by first|exact absurd hx List.not_mem_nil|simpa using hW'.lt x (by simp [hx]))) trodAll_mk0),rfl,bel.frame _,fun h=>by cases h⟩
theorem said:Rows.VerifyApartSaid:=
 OpenClaim.holds_of_cond 6 Tryz.f6 rfl rfl rfl rfl rfl rfl rfl ⟨rfl,rfl,rfl,rfl,rfl⟩ rfl rfl rfl rfl rfl (by kernel_rfl) Tryz.func6 (by kernel_rfl)
  (zza (by kernel_rfl)) (by unfold Func.isWrapper;first|(rw [if_pos (by decide +kernel)];kernel_rfl)|(rw [if_neg (by decide +kernel)];exact⟨rfl,rfl⟩))
  (fun os started H enc _ F=>by rw [OpenClaim.pre_eq_preRow];exact lifted os started H enc F)
theorem plain (f:FuncId) (fn:Func) (hf:Tryz.pinned.checked.prog.funcNamed "stagehand/stagehandlaw18.VerifyApart" =some f) (hfn:Tryz.pinned.checked.prog.funcs[f]?=some fn):
  false=Tryz.pinned.checked.prog.looks []/\ ∀(j:Nat) t,fn.params[j]?=some t->Tryz.pinned.checked.prog.wantsStandIn t=false:=by
 obtain rfl:f=6:=zzf ((show Tryz.prog.funcNamed "stagehand/stagehandlaw18.VerifyApart" =some 6 by kernel_rfl).symm.trans hf) |>.symm;obtain rfl:fn=Tryz.f6:=(zzf (Tryz.func6.symm.trans hfn)).symm;refine⟨by kernel_rfl,fun j t ht=>?_⟩;rw [Tryz.params6]at ht;have hm:=Array.mem_of_getElem? ht;have hc:t=27:=by simpa using hm
 subst hc;exact(show Tryz.prog.wantsStandIn 27=false by kernel_rfl)
theorem proved:Rows.VerifyApartCardSaid:=
 Claim7.holds_tied_plain_at .later [] _ _ _ _ said (fun _ h=>by cases h) (by kernel_rfl) (fun _ h=>by cases h) verifyApart_row_tie rfl ⟨rfl,rfl⟩ (by kernel_rfl) rfl plain (by kernel_rfl)
#print axioms proved
end Go.Proofs.YtepjanajflkakaaGreatDoor
