import Derived.Test.YthajedcbgnloeaaGreatDoorW19
namespace Go.Proofs.YthajedcbgnloeaaGreatDoor
open Go.RowKit
set_option linter.unusedVariables false
set_option linter.unusedSimpArgs false
set_option maxRecDepth 100000
set_option maxHeartbeats 0
def znD (u:RUnit) (i:Nat) (s:VSt) (x:RIns):List Int:=[zbF u s x,zcq u s x,zcp s x,zda s x,zc4 s x,zde i s x]
theorem zkc {l:List Int} {j:Nat} (h:j<l.length):zbw (l.drop j)=if l[j]≠0 then l[j]else zbw (l.drop (j+1)):=by
 rw [List.drop_eq_getElem_cons h,zbw]
theorem zqw (E U mb p b o i:Nat) (u:RUnit) (lo fo go co:zzA) (lc fc gc cc mc:Nat) (x:RIns) (s:VSt) (so co' go':zzA) (sc cc' gc':Nat) (W:World) (hx:VCx W E U mb i u lo fo go co lc fc gc cc mc) (hi:IBox W b o x so co' go' sc cc' gc') (hs:StAt W p s) (ho:StOk s) (hl:zcU u) (hv:VIns u i x) (j:Nat) (hj:j<6):
  ∃f:FuncId,zeR[j]?=some (.func (.func f) #[] #[])/\(∀(args:Array Value) (w:World),(callFunc f args).run Tryz.prog w= .ok (.enter f args) w) /\
   ∀wx,Below W.heap.size W wx->Calls Tryz.prog f #[.pointer (some ⟨E,0,none⟩),.pointer (some ⟨p,0,none⟩),.pointer (some ⟨b,o,none⟩)] wx fun e w'=>e= .returned (.int .i64 ((znD u i s x).getD j 0))/\Below wx.heap.size wx w':=by
 have hj':j=0\/j=1\/j=2\/j=3\/j=4\/j=5:=by omega
 rcases hj' with rfl|rfl|rfl|rfl|rfl|rfl
 ·refine⟨56,rfl,enters_of Tryz.func56 (by kernel_rfl) rfl,fun wx hb=>?_⟩
  exact zip E U mb p b o i u lo fo go co lc fc gc cc mc x s so co' go' sc cc' gc' wx (hx.below hb) (hi.below hb) (hs.below hb) ho hl (hv.opd s)
 ·refine⟨57,rfl,enters_of Tryz.func57 (by kernel_rfl) rfl,fun wx hb=>?_⟩
  exact zk1 E U mb p b o i u lo fo go co lc fc gc cc mc x s so co' go' sc cc' gc' wx (hx.below hb) (hi.below hb) (hs.below hb) ho hl hv.n5 (fun h=>hv.srcs s (by omega))
 ·refine⟨58,rfl,enters_of Tryz.func58 (by kernel_rfl) rfl,fun wx hb=>?_⟩
  refine(zi7 E p b o x s so co' go' sc cc' gc' wx (hi.below hb) (hs.below hb)).mono ?_;exact zz106
 ·refine⟨59,rfl,enters_of Tryz.func59 (by kernel_rfl) rfl,fun wx hb=>?_⟩
  refine(zjL E p b o x s so co' go' sc cc' gc' wx (hi.below hb) (hs.below hb)).mono ?_;exact zz106
 ·refine⟨61,rfl,enters_of Tryz.func61 (by kernel_rfl) rfl,fun wx hb=>?_⟩
  refine(zkd E p b o x s so co' go' sc cc' gc' wx (hi.below hb) (hs.below hb)).mono ?_;exact zz106
 ·refine⟨63,rfl,enters_of Tryz.func63 (by kernel_rfl) rfl,fun wx hb=>?_⟩
  refine(zjU E U mb p b o i u lo fo go co lc fc gc cc mc x s so co' go' sc cc' gc' wx (hx.below hb) (hi.below hb) (hs.below hb) ho.len).mono ?_;exact zz106
structure UnitV (u:RUnit):Prop where
 n1:1<=u.code.length
 n2:u.code.length<=600000
 ins: ∀i (h:i<u.code.length),VIns u i u.code[i]
 funcs:u.funcs.length<=200/\ ∀f∈u.funcs,0<=f.arity/\f.arity<=16/\0<=f.entry/\f.entry<u.code.length
 funs:u.funs.length<=1000/\ ∀f∈u.funs,0<=f.arity/\f.arity<=16/\0<=f.free/\f.free<=200/\0<=f.entry/\f.entry<u.code.length
 lits:zcU u
def zdK (f:RFunc):Nat × VSt:=(f.entry.toNat,zcA f.arity)
def zeD (f:RFun):Nat × VSt:=(f.entry.toNat,zcA (f.arity+f.free))
theorem zig {α:Type} (g:α->Nat × VSt) (l:List α) {k:Nat} (h:k<l.length) (M:Nat->Option VM):((l.take (k+1)).map g).foldl zX M=zX (((l.take k).map g).foldl zX M) (g l[k]):=by
 rw [List.take_succ_eq_append_getElem h,List.map_append,List.foldl_append];rfl
def zo7 (u:RUnit) (U:Nat) (w:World) (e:Ending) (w':World):Prop:=
 (∃pv,e= .returned (.tuple #[pv,.int .i64 (zbO u).1.1,.int .i64 (zbO u).1.2])/\((zbO u).1.2≠0->pv= .pointer none) /\
  ((zbO u).1.2=0-> ∃E mb mc a,pv= .pointer (some ⟨E,0,none⟩)/\w'.heap[E]?=some (.cells #[.pointer (some ⟨U,0,none⟩),.slice (some ⟨mb,0,none⟩) u.code.length mc,.int .i64 a] 63 (0,0))/\MeetI w' mb u.code.length u.code.length 2000000000 (zbO u).2))/\Below w.heap.size w w'
theorem zfU (U:Nat) (u:RUnit) (lo fo go co:zzA) (lc fc gc cc:Nat) (w:World) (hbx:UBox w U u lo fo go co lc fc gc cc) (hup:UP w u lo fo go co) (hV:UnitV u):
  Calls Tryz.prog 16 #[.pointer (some ⟨U,0,none⟩)] w (zo7 u U w):=by
 obtain⟨cb,cf,rfl⟩: ∃cb cf,co=some ⟨cb,cf,none⟩:=by
  obtain⟨b,off,_,_,_,_,_,_,e,_⟩:=zdl hup.code (k:=0) hV.n1;exact⟨b,off,e⟩
 refine zzK3 hbx hup hV fun HBX HUP HV=>?_;have hn1:=hV.n1;have hn2:=hV.n2;obtain⟨n,hn⟩: ∃n,n=u.code.length:=⟨_,rfl⟩;have b5:=hbx.c5;have b3:=hbx.c3;have b4:=hbx.c4;rw [<-hn]at hn1 hn2 b5;have HN:=zzH hn;obtain⟨arr,hs,hz,hmk⟩:=zpT n (by omega);have hmkw:=hmk w;have HS:=zzH hs;have HZ:=zzH hz;obtain⟨R,hR⟩: ∃R,R=zbO u:=⟨_,rfl⟩;have HR:=zzH hR
 have HGOAL:Hid (∀e w',(∃pv,e= .returned (.tuple #[pv,.int .i64 R.1.1,.int .i64 R.1.2])/\(R.1.2≠0->pv= .pointer none) /\
  (R.1.2=0-> ∃E mb mc a,pv= .pointer (some ⟨E,0,none⟩)/\w'.heap[E]?=some (.cells #[.pointer (some ⟨U,0,none⟩),.slice (some ⟨mb,0,none⟩) u.code.length mc,.int .i64 a] 63 (0,0))/\MeetI w' mb u.code.length u.code.length 2000000000 R.2))/\Below w.heap.size w w'->zo7 u U w e w'):=zzH (fun e w' h=>by rw [hR]at h;exact h)
 clear hbx hup hV hn hs hz hmk hR;go_in;have hmr:=zzF w (.cells arr 60);have hmb:=(zzR w.heap.size w).alloc (zzL _) (.cells arr 60);have hbl:=zd hmr;have her:=zzF (w.alloc (.cells arr 60)) (.cells #[.pointer (some ⟨U,0,none⟩),.slice (some ⟨w.heap.size,0,none⟩) n n,.int .i64 0] 63);have heb:=(zzR (w.alloc (.cells arr 60)).heap.size (w.alloc (.cells arr 60))).alloc (zzL _) (.cells #[.pointer (some ⟨U,0,none⟩),.slice (some ⟨w.heap.size,0,none⟩) n n,.int .i64 0] 63);have hmr2:=(heb.block _ hbl).trans hmr;have hbb:=hmb.trans (heb.mono hmb.size);have hse:(w.alloc (.cells arr 60)).heap.size=w.heap.size+1:=by simp
 rw [hse]at her;go_upto_region 2 with fail;generalize(w.alloc (.cells arr 60)).alloc (.cells #[.pointer (some ⟨U,0,none⟩),.slice (some ⟨w.heap.size,0,none⟩) n n,.int .i64 0] 63)=W at *;have HM0:Hid (MeetI W w.heap.size n 0 0 (fun _=>none)):=zzH (zkY hmr2 HS.out HZ.out 0 0);have HE0:Hid (VEnv w W (w.heap.size+1) U w.heap.size 0 u lo fo go (some ⟨cb,cf,none⟩) lc fc gc cc n):=zzH ⟨by rw [<-HN.out];exact her,HBX.out,HUP.out,hbb,zzL _⟩;clear hmr hmb hbl her heb hmr2 hbb hse hmkw b3 b4 b5;have hbW:=HBX.out.below HE0.out.bl;have b3:=hbW.c3;clear hbW;obtain⟨E,hE⟩: ∃E,E=w.heap.size+1:=⟨_,rfl⟩;rw [<-hE]at HE0 ⊢;obtain⟨mb,hmb⟩: ∃mb,mb=w.heap.size:=⟨_,rfl⟩;rw [<-hmb]at HE0 HM0;have HMB:=zzH hmb;have HEE:=zzH hE;clear hE hmb;have hfn:=HV.out.funcs.1;obtain⟨nf,hnf⟩: ∃nf,nf=u.funcs.length:=⟨_,rfl⟩;rw [<-hnf]at b3 hfn;have HNF:=zzH hnf;clear hnf;go_wp2_with fail;go_loopw [31] (fun iv wr=> ∃k:Nat,k<=nf/\iv= .int .i64 k/\Hid (MeetI wr mb n 0 k (((u.funcs.take k).map zdK).foldl zX (fun _=>none)))/\Hid (VEnv w wr E U mb 0 u lo fo go (some ⟨cb,cf,none⟩) lc fc gc cc n)) (fun iv _=>nf-(intOf iv).toNat)
 case atStart=>exact⟨0,zzZ _,rfl,HM0,HE0⟩
 case round=>
  obtain⟨k,hk,rfl,HMk,HEk⟩:=hrel;rename World=>wr
  by_cases hlt:k<nf
  ·as_aux_lemma=>
   have hkx:k<u.funcs.length:=by rw [<-HNF.out];exact hlt
   obtain⟨fb,off,hfo,hfb,q0,q1,q2,q3,r1,r2,r3⟩:=(HUP.out.funcs.mono HEk.out.bl (fun _ _ h=>h)).func hkx;subst hfo;have hst:=zig zdK u.funcs hkx (fun _=>none);obtain⟨h1,h2,h3,h4⟩:=HV.out.funcs.2 _ (zzM hkx);rw [show zdK u.funcs[k]=(u.funcs[k].entry.toNat,zcA u.funcs[k].arity)from rfl]at hst;generalize u.funcs[k]=f at *;obtain⟨nm,ar,pb,en⟩:=f;simp only at q0 q1 q2 q3 h1 h2 h3 h4 hst;obtain⟨e,rfl⟩:=zzJ h3;rw [<-HN.out]at h4;rw [zzq11]at hst;have HST:=zzH hst;have hk0:(0:Int)<=(k:Int):=by omega
   have hk1:(k:Int)<(nf:Int):=by omega
   have he0:(0:Int)<=(e:Int):=by omega
   have he1:(e:Int)<(n:Int):=by omega
   have heN:e<n:=by omega
   have hbox:=zzF wr (.cells #[.string nm,.int .i64 ar,.bool pb,.int .i64 e] 70);have hal:=(zzR wr.heap.size wr).alloc (zzL _) (.cells #[.string nm,.int .i64 ar,.bool pb,.int .i64 e] 70);clear hst r1 r2 r3 hfb h3 h4;go_upto_region 5 with fail;generalize wr.alloc (.cells #[.string nm,.int .i64 ar,.bool pb,.int .i64 e] 70)=W5 at *;have HME:Hid (MeetI W5 mb n 0 k (((u.funcs.take k).map zdK).foldl zX (fun _=>none))):=zzH (HMk.out.below hal);have hx5:=HEk.out.below hal;have HX5:=zzH hx5;have e1:=hx5.cx.e1;rw [<-HN.out]at e1;have z1:=zw hbox (k:=1) (by simp);have z3:=zw hbox (k:=3) (by simp);simp only [zzX4]at z1 z3;generalize wr.heap.size=B5 at *;have hB5:=zd hbox;have hE5:=zd HX5.out.ex
   have HEN:Hid (Calls Tryz.prog 30 #[.int .i64 ar] W5.drew fun e' w6=> ∃sb,e'= .returned (.pointer (some ⟨sb,0,none⟩))/\Hid (Calls Tryz.prog 29 #[.pointer (some ⟨mb,e*3,none⟩),.pointer (some ⟨sb,0,none⟩)] w6 fun e' w7=>e'= .returned (.tuple #[])/\Hid (w7.cell? ⟨E,1,none⟩=some (.slice (some ⟨mb,0,none⟩) n n)/\w7.cell? ⟨B5,1,none⟩=some (.int .i64 ar)/\w7.cell? ⟨B5,3,none⟩=some (.int .i64 e))/\Hid (MeetI w7 mb n 0 (k+1) (((u.funcs.take (k+1)).map zdK).foldl zX (fun _=>none)))/\Hid (VEnv w w7 E U mb 0 u lo (some ⟨fb,off,none⟩) go (some ⟨cb,cf,none⟩) lc fc gc cc n))/\Hid (w6.cell? ⟨E,1,none⟩=some (.slice (some ⟨mb,0,none⟩) n n)/\w6.cell? ⟨B5,1,none⟩=some (.int .i64 ar)/\w6.cell? ⟨B5,3,none⟩=some (.int .i64 e))):=zzH (by
    refine(zhm ar W5.drew ⟨h1,by omega⟩).mono ?_;rintro e' w6 ⟨⟨sb,rfl,-,hsb⟩,hb6⟩;have hb6':=(zzR W5.heap.size W5).drew.trans hb6;have hx6:=HX5.out.below hb6';refine⟨sb,rfl,zzH ?_,zzH ⟨(hb6'.cell (p:=⟨E,1,none⟩) hE5).trans e1,(hb6'.cell (p:=⟨B5,1,none⟩) hB5).trans z1,(hb6'.cell (p:=⟨B5,3,none⟩) hB5).trans z3⟩⟩;refine(zeC mb n 0 _ e sb _ (zcA ar) w6 (HME.out.below hb6') heN hsb (ze1 (by omega)) (by omega) (by omega)).mono ?_;rintro e' w7 ⟨rfl,hm7,ha7⟩;rw [<-HST.out]at hm7;have hx7:=hx6.add ha7.1 ha7.2;have hb7:=((KeepT.below hb6').trans ha7.1).2 B5 _ _ _ hbox (by decide) (by decide);have e7:=hx7.cx.e1;rw [<-HN.out]at e7;exact⟨rfl,zzH ⟨e7,by rw [zzq0 _ _ _ _ _ _ hb7];rfl,by rw [zzq0 _ _ _ _ _ _ hb7];rfl⟩,zzH hm7,zzH hx7⟩)
   have KS:Hid (W5.drew.cell? ⟨E,1,none⟩=some (.slice (some ⟨mb,0,none⟩) n n)/\W5.drew.cell? ⟨B5,1,none⟩=some (.int .i64 ar)/\W5.drew.cell? ⟨B5,3,none⟩=some (.int .i64 e)):=zzH ⟨e1,z1,z3⟩;clear hbox hal hx5 q0 q1 q2 q3 h1
   first|go_region_held3 (fun w'=>w'.cell? ⟨E,1,none⟩=some (.slice (some ⟨mb,0,none⟩) n n)/\w'.cell? ⟨B5,1,none⟩=some (.int .i64 ar)/\w'.cell? ⟨B5,3,none⟩=some (.int .i64 e)) (first|with_reducible exact KS.out|with_reducible exact KS6.out|with_reducible exact KS7.out)
    ((first|(go_at_call 30;(with_reducible refine HEN.out.mono ?_);rintro e' w6 ⟨sb,rfl,HAD,KS6⟩)|(go_at_call 29;(with_reducible refine HAD.out.mono ?_);rintro e' w7 ⟨rfl,KS7,HM7,HX7⟩)))|fail
   go_wp2_with fail;refine⟨⟨k+1,hlt,by go_num,HM7,HX7⟩,by simp [intOf];omega⟩
  ·obtain rfl:k=nf:=by omega
   have HM1:Hid (MeetI wr mb n 0 200 ((u.funcs.map zdK).foldl zX (fun _=>none))):=zzH (by
    have:=HMk.out;rw [HNF.out,List.take_length]at this;exact this.mono (zzL _) (by rw [<-HNF.out];exact hfn))
   have b4:=(HBX.out.below HEk.out.bl).c4;clear HMk;have hgn:=HV.out.funs.1;obtain⟨ng,hng⟩: ∃ng,ng=u.funs.length:=⟨_,rfl⟩;rw [<-hng]at b4 hgn;have HNG:=zzH hng;clear hng b3;obtain⟨wo,rfl⟩: ∃wo:World,wo=wr:=⟨_,rfl⟩;go_wp2_with fail;go_loopw [52] (fun iv wr=> ∃k:Nat,k<=ng/\iv= .int .i64 k/\Hid (MeetI wr mb n 0 (200+k) (((u.funs.take k).map zeD).foldl zX ((u.funcs.map zdK).foldl zX (fun _=>none))))/\Hid (VEnv w wr E U mb 0 u lo fo go (some ⟨cb,cf,none⟩) lc fc gc cc n)) (fun iv _=>ng-(intOf iv).toNat)
   case atStart=>exact⟨0,zzZ _,rfl,HM1,HEk⟩
   case round=>
    obtain⟨k,hk,rfl,HMk,HEk⟩:=hrel;rename World=>wr
    by_cases hlt:k<ng
    ·as_aux_lemma=>
     have hkx:k<u.funs.length:=by rw [<-HNG.out];exact hlt
     obtain⟨fb,off,hfo,hfb,q0,q1,q2,r1⟩:=(HUP.out.funs.mono HEk.out.bl (fun _ _ h=>h)).fn hkx;subst hfo;have hst:=zig zeD u.funs hkx ((u.funcs.map zdK).foldl zX (fun _=>none));obtain⟨h1,h2,h3,h4,h5,h6⟩:=HV.out.funs.2 _ (zzM hkx);rw [show zeD u.funs[k]=(u.funs[k].entry.toNat,zcA (u.funs[k].arity+u.funs[k].free))from rfl]at hst;generalize u.funs[k]=f at *;obtain⟨ar,fr,en⟩:=f;simp only at q0 q1 q2 h1 h2 h3 h4 h5 h6 hst;obtain⟨e,rfl⟩:=zzJ h5;rw [<-HN.out]at h6;rw [zzq11]at hst;have HST:=zzH hst;have hk0:(0:Int)<=(k:Int):=by omega
     have hk1:(k:Int)<(ng:Int):=by omega
     have he0:(0:Int)<=(e:Int):=by omega
     have he1:(e:Int)<(n:Int):=by omega
     have heN:e<n:=by omega
     have hbox:=zzF wr (.cells #[.int .i64 ar,.int .i64 fr,.int .i64 e] 84);have hal:=(zzR wr.heap.size wr).alloc (zzL _) (.cells #[.int .i64 ar,.int .i64 fr,.int .i64 e] 84);clear hst r1 hfb h5 h6;go_upto_region 10 with fail;generalize wr.alloc (.cells #[.int .i64 ar,.int .i64 fr,.int .i64 e] 84)=W5 at *;have HME:Hid (MeetI W5 mb n 0 (200+k) (((u.funs.take k).map zeD).foldl zX ((u.funcs.map zdK).foldl zX (fun _=>none)))):=zzH (HMk.out.below hal);have hx5:=HEk.out.below hal;have HX5:=zzH hx5;have e1:=hx5.cx.e1;rw [<-HN.out]at e1;have z0:=zw hbox (k:=0) (by simp);have z1:=zw hbox (k:=1) (by simp);have z2:=zw hbox (k:=2) (by simp);simp only [zzX4]at z0 z1 z2;generalize wr.heap.size=B5 at *;obtain⟨af,haf⟩: ∃af,af=ar+fr:=⟨_,rfl⟩;have hwr:IntKind.i64.wrap (ar+fr)=af:=by rw [haf,zzq2];omega
     have haf0:0<=af/\af<=256:=by omega
     rw [<-haf]at HST;have hB5:=zd hbox;have hE5:=zd HX5.out.ex
     have HEN:Hid (Calls Tryz.prog 30 #[.int .i64 af] W5.drew fun e' w6=> ∃sb,e'= .returned (.pointer (some ⟨sb,0,none⟩))/\Hid (Calls Tryz.prog 29 #[.pointer (some ⟨mb,e*3,none⟩),.pointer (some ⟨sb,0,none⟩)] w6 fun e' w7=>e'= .returned (.tuple #[])/\Hid (w7.cell? ⟨E,1,none⟩=some (.slice (some ⟨mb,0,none⟩) n n)/\w7.cell? ⟨B5,0,none⟩=some (.int .i64 ar)/\w7.cell? ⟨B5,1,none⟩=some (.int .i64 fr)/\w7.cell? ⟨B5,2,none⟩=some (.int .i64 e))/\Hid (MeetI w7 mb n 0 (200+(k+1)) (((u.funs.take (k+1)).map zeD).foldl zX ((u.funcs.map zdK).foldl zX (fun _=>none))))/\Hid (VEnv w w7 E U mb 0 u lo fo (some ⟨fb,off,none⟩) (some ⟨cb,cf,none⟩) lc fc gc cc n))/\Hid (w6.cell? ⟨E,1,none⟩=some (.slice (some ⟨mb,0,none⟩) n n)/\w6.cell? ⟨B5,0,none⟩=some (.int .i64 ar)/\w6.cell? ⟨B5,1,none⟩=some (.int .i64 fr)/\w6.cell? ⟨B5,2,none⟩=some (.int .i64 e))):=zzH (by
      refine(zhm af W5.drew ⟨haf0.1,by omega⟩).mono ?_;rintro e' w6 ⟨⟨sb,rfl,-,hsb⟩,hb6⟩;have hb6':=(zzR W5.heap.size W5).drew.trans hb6;have hx6:=HX5.out.below hb6';refine⟨sb,rfl,zzH ?_,zzH ⟨(hb6'.cell (p:=⟨E,1,none⟩) hE5).trans e1,(hb6'.cell (p:=⟨B5,0,none⟩) hB5).trans z0,(hb6'.cell (p:=⟨B5,1,none⟩) hB5).trans z1,(hb6'.cell (p:=⟨B5,2,none⟩) hB5).trans z2⟩⟩;refine(zeC mb n 0 _ e sb _ (zcA af) w6 (HME.out.below hb6') heN hsb (ze1 (by omega)) (by omega) (by omega)).mono ?_;rintro e' w7 ⟨rfl,hm7,ha7⟩;rw [<-HST.out]at hm7;have hx7:=hx6.add ha7.1 ha7.2;have hb7:=((KeepT.below hb6').trans ha7.1).2 B5 _ _ _ hbox (by decide) (by decide);have e7:=hx7.cx.e1;rw [<-HN.out]at e7;exact⟨rfl,zzH ⟨e7,by rw [zzq0 _ _ _ _ _ _ hb7];rfl,by rw [zzq0 _ _ _ _ _ _ hb7];rfl,by rw [zzq0 _ _ _ _ _ _ hb7];rfl⟩,zzH hm7,zzH hx7⟩)
     have KS:Hid (W5.drew.cell? ⟨E,1,none⟩=some (.slice (some ⟨mb,0,none⟩) n n)/\W5.drew.cell? ⟨B5,0,none⟩=some (.int .i64 ar)/\W5.drew.cell? ⟨B5,1,none⟩=some (.int .i64 fr)/\W5.drew.cell? ⟨B5,2,none⟩=some (.int .i64 e)):=zzH ⟨e1,z0,z1,z2⟩;clear hbox hal hx5 q0 q1 q2 h1 h2 h3 h4 haf
     first|go_region_held3 (fun w'=>w'.cell? ⟨E,1,none⟩=some (.slice (some ⟨mb,0,none⟩) n n)/\w'.cell? ⟨B5,0,none⟩=some (.int .i64 ar)/\w'.cell? ⟨B5,1,none⟩=some (.int .i64 fr)/\w'.cell? ⟨B5,2,none⟩=some (.int .i64 e)) (first|with_reducible exact KS.out|with_reducible exact KS6.out|with_reducible exact KS7.out)
      ((first|(go_at_call 30;(with_reducible refine HEN.out.mono ?_);rintro e' w6 ⟨sb,rfl,HAD,KS6⟩)|(go_at_call 29;(with_reducible refine HAD.out.mono ?_);rintro e' w7 ⟨rfl,KS7,HM7,HX7⟩)))|fail
     go_wp2_with fail;refine⟨⟨k+1,hlt,by go_num,HM7,HX7⟩,by simp [intOf];omega⟩
    ·obtain rfl:k=ng:=by omega
     have HM2:Hid (MeetI wr mb n 0 1200 ((zdz u).foldl zX (fun _=>none))):=zzH (by
      have:=HMk.out;rw [HNG.out,List.take_length]at this
      have e:(zdz u).foldl zX (fun _=>none)=(u.funs.map zeD).foldl zX ((u.funcs.map zdK).foldl zX (fun _=>none)):=by
       unfold zdz;rw [List.foldl_append];rfl
      rw [e];exact this.mono (zzL _) (by rw [<-HNG.out];omega))
     clear HMk HM1;have HRE:Hid (R=zcJ u n 0 ((zdz u).foldl zX (fun _=>none))):=zzH (by rw [HR.out,HN.out];rfl);generalize(zdz u).foldl zX (fun _=>none)=M0 at *;clear b4 hgn HNG HNF hfn;go_wp2_with fail;refine(zjI wr).mono ?_;rintro e w1 ⟨rfl,hck,hb1⟩;have hM1:=HM2.out.below hb1;have hE1:=HEk.out.below hb1;refine zzK3 hM1 hE1 hck fun HMS HES HCK=>?_;have b5:=(HBX.out.below hE1.bl).c5;rw [<-HN.out]at b5;generalize wr.heap.size=CK at *;clear hb1 hM1 hE1 hck HM2 HEk;go_wp2_with fail;go_loopw [77] (fun iv wr=> ∃(i:Nat) (Mi:Nat->Option VM) (a:Int),i<=n/\iv= .int .i64 i/\Hid (R=zcJ u (n-i) i Mi)/\Hid (MeetI wr mb n i (1200+1200*i) Mi)/\Hid (VEnv w wr E U mb a u lo fo go (some ⟨cb,cf,none⟩) lc fc gc cc n)/\Hid (wr.heap[CK]?=some (.cells zeR 90 (0,0)))) (fun iv _=>n-(intOf iv).toNat)
     case atStart=>exact⟨0,M0,0,zzZ _,rfl,HRE,HMS,HES,HCK⟩
     case round=>
      obtain⟨i,Mi,a,hi,rfl,HRi,HMi,HEi,HCi⟩:=hrel;clear HMS HES HCK b5;rename World=>wr
      by_cases hlt:i<n
      ·as_aux_lemma=>
       have hEE:w.heap.size<=E:=by have:=HEE.out;omega
       have hex:=HEi.out.ex;have q2:=HEi.out.cx.e2;have qf:wr.frozen? ⟨E,2,none⟩=false:=zzq5 _ _ _ _ _ hex;have hI0:(0:Int)<=(i:Int):=by omega
       have hI1:(i:Int)<(n:Int):=by omega
       go_upto_region 17 with fail;have hMx:=HMi.out.setFar (i:=2) (v:=.int .i64 i) hex;have hEx:=HEi.out.setAt hEE (i:Int);have hCx:=zcR (i:=2) (v:=.int .i64 i) HCi.out hex (by decide);generalize wr.setCell ⟨E,2,none⟩ (.int .i64 i)=W at *;refine zzK3 hMx hEx hCx fun HMW HEW HCW=>?_;have e1:=hEx.cx.e1;rw [<-HN.out]at e1;clear hex q2 qf hMx hEx hCx HMi HEi HCi;obtain⟨⟨csi,gi,hmi⟩,hai⟩:=HMW.out;obtain⟨pv,av,wv,f0,f1,f2,h1⟩:=hmi.one i hlt;have c0:W.cell? ⟨mb,i*3,none⟩=some pv:=by rw [zzq0 _ _ _ _ _ _ hmi.row];exact f0
       have c2:W.cell? ⟨mb,i*3+2,none⟩=some wv:=by rw [zzq0 _ _ _ _ _ _ hmi.row];exact f2
       obtain⟨f,hf⟩: ∃f,n-i=f+1:=⟨n-i-1,by omega⟩;have hf2:n-(i+1)=f:=by omega
       have HRI:Hid (R=zcJ u (f+1) i Mi):=zzH (by rw [HRi.out,hf]);have HF2:=zzH hf2;clear hf hf2 HRi hmi f0 f1 f2
       cases hMi:Mi i with
       |none=>
        rw [hMi]at h1;obtain⟨rfl,rfl,rfl⟩:=h1;have HRJ:Hid (R=zcJ u (n-(i+1)) (i+1) Mi):=zzH (by rw [HRI.out,HF2.out,zcJ,hMi]);clear hMi hai;go_wp2_with fail;refine⟨⟨i+1,Mi,i,hlt,by go_num,HRJ,zzH (HMW.out.mono (Nat.le_succ i) (by omega)),HEW,HCW⟩,by simp [intOf];omega⟩
       |some m=>
        rw [hMi]at h1;obtain⟨⟨b,rfl,hsb⟩,rfl,-⟩:=h1;have him:=hai i m hMi;unfold zdJ at c0;refine zzK3 hsb him hMi fun HSB HIM HMI=>?_;clear hsb him hMi hai;by_cases hwr:m.wrong=0
        ·rw [hwr]at c2
         have HWR:=zzH hwr;clear hwr;have hix:i<u.code.length:=by rw [<-HN.out];exact hlt
         obtain⟨x,hx⟩: ∃x,x=u.code[i]:=⟨_,rfl⟩;have hxi:zcE u i=x:=by rw [hx];unfold zcE;rw [zzq3 hix];rfl
         have hvi:VIns u i x:=by rw [hx];exact HV.out.ins i hix
         obtain⟨sb',sf',so,co',go',sc,cc',gc',hce,hib⟩:=zdl HUP.out.code hix;injection hce with hce;injection hce with hce1 hce2;subst hce1;subst hce2;rw [<-hx]at hib;refine zzK3 hxi hvi hib fun HXI HVI HIB=>?_;clear hx hxi hvi hib hix;obtain⟨L,hL⟩: ∃L,L=znD u i m.st x:=⟨_,rfl⟩;have hL6:L.length=6:=by rw [hL];rfl
         have HL:=zzH hL;have HL6:=zzH hL6
         have HCHK:Hid (∀j,j<6-> ∃f:FuncId,zeR[j]?=some (.func (.func f) #[] #[])/\(∀(args:Array Value) (w:World),(callFunc f args).run Tryz.prog w= .ok (.enter f args) w) /\
           ∀wx,Below W.heap.size W wx->Calls Tryz.prog f #[.pointer (some ⟨E,0,none⟩),.pointer (some ⟨b,0,none⟩),.pointer (some ⟨cb,cf+i*10,none⟩)] wx fun e w'=>e= .returned (.int .i64 (L.getD j 0))/\Below wx.heap.size wx w'):=zzH (fun j hj=>by
          rw [hL];exact zqw E U mb b cb (cf+i*10) i u lo fo go (some ⟨cb,cf,none⟩) lc fc gc cc n x m.st so co' go' sc cc' gc' W HEW.out.cx (HIB.out.below HEW.out.bl) HSB.out (HIM.out.st.ok (by omega)) HV.out.lits HVI.out j hj)
         have HC0:=zzH c0;clear hL hL6;go_wp2_with fail;go_loopw [107] (fun jv wr=> ∃j:Nat,j<=6/\jv= .int .i64 j/\Hid (zbw L=zbw (L.drop j))/\Hid (Below W.heap.size W wr)) (fun jv _=>6-(intOf jv).toNat)
         case atStart=>exact⟨0,zzZ _,rfl,zzH (by rw [List.drop_zero]),zzH (zzR _ _)⟩
         case round=>
          obtain⟨j,hj,rfl,HLj,HBj⟩:=hrel;rename World=>wr
          by_cases hjt:j<6
          ·as_aux_lemma=>
           obtain⟨f6,hf6,hent,hcon⟩:=HCHK.out j hjt;have hd:=zkc (l:=L) (j:=j) (by rw [HL6.out];exact hjt);have hgd:L.getD j 0=L[j]'(by rw [HL6.out];exact hjt):=by rw [List.getD_eq_getElem?_getD,zzq3];rfl
           rw [<-hgd]at hd;have HD:=zzH hd;generalize L.getD j 0=ej at *
           have hck:wr.cell? ⟨CK,j,none⟩=some (.func (.func f6) #[] #[]):=by
            rw [zzq0 _ _ _ _ _ _ ((HBj.out.block CK (zd HCW.out)).trans HCW.out)];exact hf6
           have hJ0:(0:Int)<=(j:Int):=by omega
           have hJ1:(j:Int)<6:=by omega
           have hbox:=zzF wr (.cells #[.func (.func f6) #[] #[]] 90);have hal:=HBj.out.alloc HBj.out.size (.cells #[.func (.func f6) #[] #[]] 90);clear hd hgd hf6 c0 c2 e1;go_upto_region 24 with fail;generalize wr.alloc (.cells #[.func (.func f6) #[] #[]] 90)=W5 at *;have z0:=zw hbox (k:=0) (by simp);simp only [List.getElem_toArray,List.getElem_cons_zero]at z0;have c5:W5.cell? ⟨mb,i*3,none⟩=some (.pointer (some ⟨b,0,none⟩)):=(hal.cell (p:=⟨mb,i*3,none⟩) HMW.out.mb).trans HC0.out;have b5:=(HBX.out.below (HEW.out.bl.trans (hal.mono HEW.out.bl.size))).c5;rw [<-HN.out]at b5;have HAL:=zzH hal;have HCO:=zzH (hcon W5.drew (hal.trans ((zzR _ _).drew)));generalize wr.heap.size=B5 at *;clear hbox hal hck hcon;by_cases hej:ej=0
           ·have HLJ:Hid (zbw L=zbw (L.drop (j+1))):=zzH (by rw [HLj.out,HD.out,if_neg (fun h=>h hej)])
            subst hej;clear HLj HD;go_still_tail 13,(by kernel_rfl);change wpList _ _ _ _ _ W5.drew;go_wp2_with fail;refine HCO.out.mono ?_;rintro e w6 ⟨rfl,hb6⟩;have HB6:Hid (Below W.heap.size W w6):=zzH ((HAL.out.trans (zzR _ _).drew).trans (hb6.mono HAL.out.size));clear hb6 HCO;go_wp2_with fail;refine⟨⟨j+1,hjt,by go_num,HLJ,HB6⟩,by simp [intOf];omega⟩
           ·have HFN:Hid (zbw L=ej):=zzH (by rw [HLj.out,HD.out,if_pos hej])
            have HEJ:=zzH hej;have u1 : (ej != 0) = true := by simpa using hej
            have HRR:Hid (R=(((i:Int),ej),Mi)):=zzH (by
             have hc:zb1 u i m.st (zcE u i)=ej:=by rw [HXI.out,<-HFN.out,HL.out];rfl
             rw [HRI.out,zcJ,HMI.out];simp only;rw [if_neg (fun h=>h HWR.out),hc,if_pos hej])
            clear hej HLj HD;go_still_tail 13,(by kernel_rfl);change wpList _ _ _ _ _ W5.drew;go_wp2_with fail;refine HCO.out.mono ?_;rintro e w6 ⟨rfl,hb6⟩;have HB6:Hid (Below W.heap.size W w6):=zzH ((HAL.out.trans (zzR _ _).drew).trans (hb6.mono HAL.out.size));clear hb6 HCO;go_wp2;go_ret3;exact HGOAL.out _ _ ⟨⟨.pointer none,by(have h:=HRR.out;subst h;rfl),fun _=>rfl,fun h=>absurd (by rw [HRR.out]at h;exact h) HEJ.out⟩,HEW.out.bl.trans (HB6.out.mono HEW.out.bl.size)⟩
          ·obtain rfl:j=6:=by omega
           as_aux_lemma=>
           have HC:Hid (zb1 u i m.st x=0):=zzH (by
            have h1:zb1 u i m.st x=zbw L:=by rw [HL.out];rfl
            rw [h1,HLj.out,zzq10 (by rw [HL6.out];exact Nat.le_refl 6)];rfl)
           have hxx:=HEW.out.below HBj.out;have c5:wr.cell? ⟨mb,i*3,none⟩=some (.pointer (some ⟨b,0,none⟩)):=(HBj.out.cell (p:=⟨mb,i*3,none⟩) HMW.out.mb).trans HC0.out;obtain⟨PE,hPE⟩: ∃PE,PE=zbN u i m.st x (stM Mi):=⟨_,rfl⟩;have hps:=znB w E U mb b i (1200+1200*i) u lo fo go cb cf lc fc gc cc n m.st x Mi wr hxx (by rw [<-HN.out];exact HMW.out.below HBj.out) (HSB.out.below HBj.out) (by rw [<-HN.out];exact HIM.out.st) (by rw [<-HN.out];exact hlt) HXI.out HVI.out HC.out HV.out.lits (by rw [<-HN.out];exact hn2) (by omega)
           have hps2:Calls Tryz.prog 32 #[.pointer (some ⟨E,0,none⟩),.int .i64 i,.pointer (some ⟨b,0,none⟩)] wr fun e w'=>e= .returned (.int .i64 PE)/\Hid (AddK mb wr w')/\Hid (PE=0->MeetI w' mb n (i+1) (1200+1200*i+1200) ((zbL u i m.st x).foldl zX Mi)):=
            hps.mono fun e w' h=>by
             unfold zlY at h;rw [<-hPE,<-HN.out]at h;exact⟨h.1,zzH h.2.1,zzH h.2.2⟩
           refine zzK3 hps2 hPE hxx fun HPS HPE HXX=>?_;clear hps hps2 hPE hxx c0 c2 e1 HLj;by_cases hpe:PE=0
           ·have HRJ:Hid (R=zcJ u (n-(i+1)) (i+1) ((zbL u i m.st x).foldl zX Mi)):=zzH (by
             rw [HRI.out,HF2.out,zcJ,HMI.out];simp only;rw [if_neg (fun h=>h HWR.out),HXI.out,if_neg (fun h=>h HC.out),<-HPE.out,if_neg (fun h=>h hpe)])
            subst hpe;go_wp2_with fail;refine HPS.out.mono ?_;rintro e w6 ⟨rfl,HAK,HM6⟩;have HM7:Hid (MeetI w6 mb n (i+1) (1200+1200*(i+1)) ((zbL u i m.st x).foldl zX Mi)):=zzH ((HM6.out (by first|trivial|rfl)).mono (zzL _) (by omega));have HX6:=zzH (HXX.out.add HAK.out.1 HAK.out.2);have HC6:Hid (w6.heap[CK]?=some (.cells zeR 90 (0,0))):=zzH (HAK.out.1.2 CK _ _ _ ((HBj.out.block CK (zd HCW.out)).trans HCW.out) (by decide) (by decide))
            clear HPS HAK HM6 HXX HPE;go_wp2_with fail;refine⟨⟨i+1,_,i,hlt,by go_num,HRJ,HM7,HX6,HC6⟩,by simp [intOf];omega⟩
           ·have HRR:Hid (R=(((i:Int),PE),Mi)):=zzH (by
             rw [HRI.out,zcJ,HMI.out];simp only;rw [if_neg (fun h=>h HWR.out),HXI.out,if_neg (fun h=>h HC.out),<-HPE.out,if_pos hpe])
            have HEJ:=zzH hpe;have u1 : (PE != 0) = true := by simpa using hpe
            clear hpe;go_wp2_with fail;refine HPS.out.mono ?_;rintro e w6 ⟨rfl,HAK,-⟩;have HX6:=zzH (HXX.out.add HAK.out.1 HAK.out.2);clear HPS HAK HXX;go_wp2;go_ret3;exact HGOAL.out _ _ ⟨⟨.pointer none,by(have h:=HRR.out;subst h;rfl),fun _=>rfl,fun h=>absurd (by rw [HRR.out]at h;exact h) HEJ.out⟩,HX6.out.bl⟩
        ·have HRR:Hid (R=(((i:Int),m.wrong),Mi)):=zzH (by rw [HRI.out,zcJ,HMI.out];simp only;rw [if_pos hwr])
         have u1 : (m.wrong != 0) = true := by simpa using hwr
         have HWR:=zzH hwr;clear hwr;generalize hmw:m.wrong=mw at *;have HMW2:=zzH hmw;clear hmw;go_wp2_with fail;go_quiet (fail);go_wp2;go_ret3;refine HGOAL.out _ _ ⟨⟨.pointer none,by(have h:=HRR.out;subst h;rfl),fun _=>rfl,fun h=>absurd (by rw [HRR.out]at h;exact h) HWR.out⟩,zm HEW.out.bl _⟩
      ·obtain rfl:i=n:=by omega
       have HRR:Hid (R=((0,0),Mi)):=zzH (by rw [HRi.out,Nat.sub_self];rfl);go_wp2;go_ret3;refine HGOAL.out _ _ ⟨⟨.pointer (some ⟨E,0,none⟩),by(have h:=HRR.out;subst h;rfl),fun h=>absurd (by(have h:=HRR.out;subst h;rfl)) h,fun _=>⟨E,mb,i,a,rfl,HEi.out.ex,?_⟩⟩,HEi.out.bl⟩;rw [HRR.out,<-HN.out];exact HMi.out.mono (zzL _) (by omega)
theorem ze9: ∀{l:List Int},(∀x∈l,0<=x)->0<=zbz l
 |[],_=>Int.le_refl _
 |x::l,h=>by
  have h1:=h x (zzg ..);have h2:=ze9 (l:=l) (fun y hy=>h y (zzh _ hy));show 0<=x+zbz l;omega
theorem zkX {t:Tm} (h:zc0 t=true):0<=zbe t:=by
 unfold zc0 at h;rw [zzq4]at h;have h:=h.1;unfold zbe;split
 ·rename_i k9
  unfold okK at h;simp only [k9]at h;simp at h;omega
 ·split
  ·rename_i k10
   unfold okK at h;simp only [k10]at h;simp at h;unfold zfN zcz wi at h;simp at h;omega
  ·decide
theorem zf9: ∀(f:Nat) (t:Tm),zh f t=true->0<=zr f t
 |0,_,h=>Int.le_refl _
 |f+1,t,h=>by
  unfold zh at h;rw [zzq4]at h;have h1:=zkX h.1
  have h2:0<=zbz (t.items.map (zr f)):=ze9 (fun x hx=>by
   obtain⟨y,hy,rfl⟩:=List.mem_map.1 hx;exact zf9 f y (zzp.1 h.2 y hy))
  show 0<=zbe t+zbz (t.items.map (zr f));omega
theorem zn6 {f:Nat} {t:Tm} (h:zM f t=true):t.items.length<=1000000:=by
 unfold zM at h;rw [zzq4,zzq8]at h;obtain⟨h1,h2⟩:=h
 cases f with
 |zero=>cases h1
 |succ f=>
  have h3:0<=zbz (t.items.map (zr f)):=by
   unfold zh at h1;rw [zzq4]at h1
   exact ze9 (fun x hx=>by
    obtain⟨y,hy,rfl⟩:=List.mem_map.1 hx;exact zf9 f y (zzp.1 h1.2 y hy))
  unfold zh zc0 at h1;rw [zzq4,zzq4]at h1;have h4:zbe t+zbz (t.items.map (zr f))<=2000:=h2;obtain⟨⟨hk,hz⟩,-⟩:=h1;unfold ze6 at hz;simp only [zzq4,Bool.or_eq_true,zzq8]at hz;rcases hz.1.1.2 with hk2|hz0
  ·rcases hk2 with h|h|h
   ·unfold okK at hk
    simp only [h]at hk;simp at hk;omega
   ·unfold okK at hk
    simp only [h]at hk;simp at hk;omega
   ·unfold zbe at h4
    rw [if_pos h]at h4;omega
  ·have:t.items.length=0:=zza hz0
   omega
theorem zd6 {f:Nat} {u:RUnit} (h:zbt f u=0):UnitV u:=by
 obtain⟨ht,htab,hins⟩:=ziK h;have hlv:=zfJ htab;unfold zP at htab;simp only [zzq4]at htab;obtain⟨ha,-,hf,hg⟩:=htab;refine⟨ht.code0,zzY ht.code1 (by decide),fun i hi=>zqg ht (hins i hi),⟨ht.funcs,fun g hm=>?_⟩,⟨ht.funs,fun g hm=>?_⟩,fun t hm=>zn6 (hlv t hm)⟩
 ·obtain⟨k,hk,rfl⟩:=List.getElem_of_mem hm
  have:=(zza hf k hk).1;unfold zdN at this;rw [zzq4,zzq4]at this;have a:=zb5 this.2.1;have b:=zb5 this.2.2;omega
 ·exact zz56
def zcG (f:Nat) (u:RUnit):Int × Int:=if zbt f u≠0 then(zb8 f u,zbt f u)else(zbO u).1
structure ChkAt (w:World) (f:Nat) (u:RUnit) (lo fo go co:Option Addr):Prop where
 rows:RowsAt w
 sp:SpaceAt w
 up:UP w u lo fo go co
 lits:SlAt w 9 (TmAt w (f+1)) lo u.lits
 cap: ∀t∈u.lits,(zR (f+1) t:Int)<=1152921504606846976
 nm: ∀x∈u.code,x.name.size<=140737488355328
theorem ChkAt.below {w w':World} {f:Nat} {u:RUnit} {lo fo go co:zzA} (h:ChkAt w f u lo fo go co) (hb:Below w.heap.size w w'):ChkAt w' f u lo fo go co:=
 ⟨h.rows.below hb,h.sp.below hb,h.up.below hb,h.lits.tms hb,h.cap,h.nm⟩
theorem zhe (f:Nat) (u:RUnit) (lo fo go co:zzA) (lc fc gc cc:Nat) (w:World) (h:ChkAt w f u lo fo go co):
  Calls Tryz.prog 7 #[.agg (zzu u lo lc fo fc go gc co cc)] w fun e w'=>e= .returned (.tuple #[.int .i64 (zcG (f+1) u).1,.int .i64 (zcG (f+1) u).2])/\Below w.heap.size w w':=by
 unfold zzu;have hbx:=zd3 w u lo fo go co lc fc gc cc;have hba:Below w.heap.size w (w.alloc (.cells (zzu u lo lc fo fc go gc co cc) 27)):=zzE _ _;have hc:=h.below hba;obtain⟨V,hV⟩: ∃V,V=zcG (f+1) u:=⟨_,rfl⟩;rw [<-hV];have HV:=zzH hV;clear hV h;go_in;go_upto_region 1 with fail;generalize w.alloc (.cells (zzu u lo lc fo fc go gc co cc) 27)=W at *;generalize hB:w.heap.size=B at *;refine zzK3 hba hbx hc fun HBA HBX HC=>?_;have c0:=hbx.c0;have c1:=hbx.c1;have c2:=hbx.c2;have c3:=hbx.c3;have c4:=hbx.c4;have c5:=hbx.c5;have HCK:=zzH (zh3 f u lo fo go co lc fc gc cc W hc.rows hc.sp hc.up hc.lits hc.cap hc.nm);clear hba hbx hc;obtain⟨ce,hce⟩: ∃ce,ce=zbt (f+1) u:=⟨_,rfl⟩;obtain⟨ci,hci⟩: ∃ci,ci=zb8 (f+1) u:=⟨_,rfl⟩;rw [<-hce,<-hci]at HCK;have HCE:=zzH hce;have HCI:=zzH hci;clear hce hci;go_wp2_with fail;refine HCK.out.mono ?_;rintro e w1 ⟨rfl,hb1⟩;have HB1:=zzH hb1;clear hb1 HCK c0 c1 c2 c3 c4 c5;have HFIN:Hid (∀wx,Below w1.heap.size w1 wx->Below B w wx):=zzH (fun wx h=>(HBA.out.trans (HB1.out.mono (by rw [<-hB];rw [hB];exact HBA.out.size |> fun h=>by omega))).trans (h.mono (by have:=HB1.out.size;have:=HBA.out.size;omega)));by_cases h0:ce=0
 ·have HEX:=zzH (zfU B u lo fo go co lc fc gc cc w1 (HBX.out.below HB1.out) (HC.out.up.below HB1.out) (zd6 (by rw [<-HCE.out];exact h0)))
  have E:Hid (V=(zbO u).1):=zzH (by rw [HV.out];unfold zcG;rw [<-HCE.out,if_neg (fun h=>h h0)]);subst h0;go_wp2_with fail;refine HEX.out.mono ?_;rintro e w2 ⟨⟨pv,rfl,-,-⟩,hb2⟩;rw [<-E.out];have HB2:=zzH hb2;clear hb2 HEX;go_wp2;go_ret2;exact⟨rfl,by rw [hB];exact HFIN.out _ HB2.out⟩
 ·have E:Hid (V=(ci,ce)):=zzH (by rw [HV.out];unfold zcG;rw [<-HCE.out,<-HCI.out,if_pos h0])
  have u1 : (ce != 0) = true := by simpa using h0
  clear h0;go_wp2;go_ret2;exact⟨by(have h:=E.out;subst h;rfl),by rw [hB];exact HFIN.out _ (zzR _ _)⟩
theorem zgS (l:List RIns) (n:Nat) (hn:n=l.length) (fo co:zzA) (fc cc:Nat) (i e:Int) (w:World) (hrows:RowsAt w) (hsp:SpaceAt w) (hup:UP w (exU l) none fo none co) (hs:l.all (fun x=>x.name.size==0)=true) (hw:zcG 1 (exU l)=(i,e)):
  Calls Tryz.prog 7 #[.agg #[.string zly,.int .i64 1,.slice none 0 0,.slice fo 1 fc,.slice none 0 0,.slice co n cc]] w fun en w'=>en= .returned (.tuple #[.int .i64 i,.int .i64 e])/\Below w.heap.size w w':=by
 subst hn
 have hnm: ∀x∈(exU l).code,x.name.size<=140737488355328:=fun x hx=>by
  have h1:=zzp.1 hs x hx;have h2:x.name.size=0:=by simpa using h1
  omega
 have h:=zhe 0 (exU l) none fo none co 0 fc 0 cc w ⟨hrows,hsp,hup,.inl rfl,(fun t ht=>by cases ht),hnm⟩;rw [hw]at h;exact h
theorem zqZ:zcG 1 (exU ziN)=(0,0):=by kernel_rfl
theorem zq4:zcG 1 (exU zi5)=(0,0):=by kernel_rfl
theorem zqW:zcG 1 (exU zi6)=(0,186):=by kernel_rfl
theorem zg7 (w:World) (hrows:RowsAt w) (hsp:SpaceAt w):Calls Tryz.prog 6 #[] w fun e w'=>e= .returned (.bool true)/\Below w.heap.size w w':=by
 have HR:=zzH hrows;have HS:=zzH hsp;clear hrows hsp;have HX0:=zzH (zgR 1 w);go_in;go_wp2_with fail;refine HX0.out.mono ?_;rintro e w1 ⟨rfl,hb1⟩;have HX1:=zzH (zgR 0 w1);clear HX0;go_wp2_with fail;refine HX1.out.mono ?_;rintro e w2 ⟨rfl,hb2⟩;have HB2:=zzH (ze hb1 hb2);have HOW:Hid (w.heap.size<=w2.heap.size):=zzH HB2.out.size;clear HX1 hb1 hb2
 obtain⟨h1,h2,h3,hb⟩:=zbR w2 (.cells #[.int .i64 1,.int .i64 0] 42)
  (.cells #[.int .i64 1,.int .i64 1,.int .i64 1,.slice (some ⟨w2.heap.size,0,none⟩) 1 1,.int .i64 0,.int .i64 0,.int .i64 0,.string ⟨#[]⟩,.slice none 0 0,.slice none 0 0] 47)
  (.cells #[.int .i64 26,.int .i64 0,.int .i64 0,.slice none 0 0,.int .i64 0,.int .i64 0,.int .i64 0,.string ⟨#[]⟩,.slice none 0 0,.slice none 0 0] 47)
 refine zzK4 h1 h2 h3 (ze HB2.out hb) fun H1 H2 H3 HB3=>?_;clear h1 h2 h3 hb HB2;go_upto_region 3 with fail;generalize((w2.alloc _).alloc _).alloc _=W3 at *;generalize hO:w2.heap.size=O at *;have HE:=zzH (zzR W3.heap.size W3);obtain⟨m0,m1,m2,m3,m4,m5,m6,m7,m8,m9⟩:=zC H2.out;obtain⟨q0,q1,q2,q3,q4,q5,q6,q7,q8,q9⟩:=zC H3.out;have hba:Below W3.heap.size W3 (W3.alloc (KO12 O)):=zzE _ _;have hone:=((HE.out.block _ (zd H1.out)).trans H1.out);have HU:=zzH (zgK ziN 2 rfl _ 2 (W3.alloc (KO12 O)) (zqX ((hba.block _ (zd hone)).trans hone) (zzF _ _)) (by unfold ziN;simp) (by decide));have HBAw4:=zzH (ze HE.out hba);clear hba hone;go_wp2_with fail;refine HU.out.mono ?_;rintro e w4 ⟨⟨fo12,fc12,co12,cc12,rfl,hup⟩,hb⟩;have HBUw4:=zzH (ze HBAw4.out hb);have HW:=zzH (zgS ziN 2 rfl fo12 co12 fc12 cc12 0 0 w4 (HR.out.below (ze HB3.out HBUw4.out)) (HS.out.below (ze HB3.out HBUw4.out)) hup rfl zqZ);clear hup hb HU HBAw4;go_wp2_with fail;refine HW.out.mono ?_;rintro e w5 ⟨rfl,hb⟩;have HBw5:=zzH (ze HBUw4.out hb);clear hb HW HBUw4;clear m0 m1 m2 m3 m4 m5 m6 m7 m8 m9 q0 q1 q2 q3 q4 q5 q6 q7 q8 q9;have HX2:=zzH (zgR 2 w5);go_wp2_with fail;refine HX2.out.mono ?_;rintro e w6 ⟨rfl,hb⟩;have HB6:=zzH (ze HBw5.out hb);clear hb HX2;have hba:Below w6.heap.size w6 (w6.alloc (.cells #[.int .i64 1,.int .i64 2] 42)):=zzE _ _;have hb7:=ze HB6.out hba;have hmv:=(hb7.block _ (zd H2.out)).trans H2.out;have hbk:=(hb7.block _ (zd H3.out)).trans H3.out;have htw:=zzF w6 (.cells #[.int .i64 1,.int .i64 2] 42);have m3:=zzq0 _ _ 3 _ _ _ hmv;have z3:=zzq5 _ _ 3 _ _ hmv;simp only [List.getElem?_toArray,List.getElem?_cons_succ,List.getElem?_cons_zero]at m3;have hl6:O+1<w6.heap.size:=zzW (zd H2.out) HB6.out.size;have hl7:O+1+1<w6.heap.size:=zzW (zd H3.out) HB6.out.size;have G1:Hid (((w6.alloc (.cells #[.int .i64 1,.int .i64 2] 42)).setCell ⟨O+1,3,none⟩ (.slice (some ⟨w6.heap.size,0,none⟩) 1 1)).heap[w6.heap.size]?=some (.cells #[.int .i64 1,.int .i64 2] 42 (0,0))):=zzH ((zzq6 _ _ _ _ (by show w6.heap.size≠O+1;omega)).trans htw)
 have G2:Hid (((w6.alloc (.cells #[.int .i64 1,.int .i64 2] 42)).setCell ⟨O+1,3,none⟩ (.slice (some ⟨w6.heap.size,0,none⟩) 1 1)).heap[O+1]?=some (.cells #[.int .i64 1,.int .i64 1,.int .i64 1,.slice (some ⟨w6.heap.size,0,none⟩) 1 1,.int .i64 0,.int .i64 0,.int .i64 0,.string ⟨#[]⟩,.slice none 0 0,.slice none 0 0] 47 (0,0))):=zzH (zzS _ _ 3 _ _ _ hmv)
 have G3:Hid (((w6.alloc (.cells #[.int .i64 1,.int .i64 2] 42)).setCell ⟨O+1,3,none⟩ (.slice (some ⟨w6.heap.size,0,none⟩) 1 1)).heap[O+1+1]?=some (.cells #[.int .i64 26,.int .i64 0,.int .i64 0,.slice none 0 0,.int .i64 0,.int .i64 0,.int .i64 0,.string ⟨#[]⟩,.slice none 0 0,.slice none 0 0] 47 (0,0))):=zzH ((zzq6 _ _ _ _ (by show O+1+1≠O+1;omega)).trans hbk)
 have HB7:Hid (Below w.heap.size w ((w6.alloc (.cells #[.int .i64 1,.int .i64 2] 42)).setCell ⟨O+1,3,none⟩ (.slice (some ⟨w6.heap.size,0,none⟩) 1 1))):=zzH ((ze HB3.out hb7).setCell (p:=⟨O+1,3,none⟩) (by show w.heap.size<=O+1;have:=HOW.out;omega) _);clear hb7 hmv hbk htw hl6 hl7 hba;go_upto_region 5 with fail;generalize World.setCell _ _ _=W7 at *;generalize hP:w6.heap.size=P at *;clear m3 z3 H1 H2 H3 HB3 HE HB6 HBw5;have HE:=zzH (zzR W7.heap.size W7);obtain⟨m0,m1,m2,m3,m4,m5,m6,m7,m8,m9⟩:=zC G2.out;obtain⟨q0,q1,q2,q3,q4,q5,q6,q7,q8,q9⟩:=zC G3.out;have hba:Below W7.heap.size W7 (W7.alloc (KO13 P)):=zzE _ _;have hone:=((HE.out.block _ (zd G1.out)).trans G1.out);have HU:=zzH (zgK zi5 3 rfl _ 3 (W7.alloc (KO13 P)) (zq1 ((hba.block _ (zd hone)).trans hone) (zzF _ _)) (by unfold zi5;simp) (by decide));have HBAw8:=zzH (ze HE.out hba);clear hba hone;go_wp2_with fail;refine HU.out.mono ?_;rintro e w8 ⟨⟨fo13,fc13,co13,cc13,rfl,hup⟩,hb⟩;have HBUw8:=zzH (ze HBAw8.out hb);have HW:=zzH (zgS zi5 3 rfl fo13 co13 fc13 cc13 0 0 w8 (HR.out.below (ze HB7.out HBUw8.out)) (HS.out.below (ze HB7.out HBUw8.out)) hup rfl zq4);clear hup hb HU HBAw8;go_wp2_with fail;refine HW.out.mono ?_;rintro e w9 ⟨rfl,hb⟩;have HBw9:=zzH (ze HBUw8.out hb);clear hb HW HBUw8;clear m0 m1 m2 m3 m4 m5 m6 m7 m8 m9 q0 q1 q2 q3 q4 q5 q6 q7 q8 q9;obtain⟨m0,m1,m2,m3,m4,m5,m6,m7,m8,m9⟩:=zC ((HBw9.out.block _ (zd G2.out)).trans G2.out);obtain⟨q0,q1,q2,q3,q4,q5,q6,q7,q8,q9⟩:=zC ((HBw9.out.block _ (zd G3.out)).trans G3.out);have hba:Below w9.heap.size w9 (w9.alloc (KO14 P)):=zzE _ _;have hone:=((HBw9.out.block _ (zd G1.out)).trans G1.out);have HU:=zzH (zgK zi6 2 rfl _ 2 (w9.alloc (KO14 P)) (zq7 ((hba.block _ (zd hone)).trans hone) (zzF _ _)) (by unfold zi6;simp) (by decide));have HBAw10:=zzH (ze HBw9.out hba);clear hba hone;go_wp2_with fail;refine HU.out.mono ?_;rintro e w10 ⟨⟨fo14,fc14,co14,cc14,rfl,hup⟩,hb⟩;have HBUw10:=zzH (ze HBAw10.out hb);have HW:=zzH (zgS zi6 2 rfl fo14 co14 fc14 cc14 0 186 w10 (HR.out.below (ze HB7.out HBUw10.out)) (HS.out.below (ze HB7.out HBUw10.out)) hup rfl zqW);clear hup hb HU HBAw10;go_wp2_with fail;refine HW.out.mono ?_;rintro e w11 ⟨rfl,hb⟩;have HBw11:=zzH (ze HBUw10.out hb);clear hb HW HBUw10;clear m0 m1 m2 m3 m4 m5 m6 m7 m8 m9 q0 q1 q2 q3 q4 q5 q6 q7 q8 q9;go_wp2;go_ret;exact⟨rfl,(ze HB7.out HBw11.out)⟩
def OutOne (w:World) (pv:Value):Option VM->Prop
 |none=>pv= .pointer none
 |some m=> ∃b,pv= .pointer (some ⟨b,0,none⟩)/\CsAt w b m.st
def OutAt (w:World) (ob n i:Nat) (M:Nat->Option VM):Prop:=
 ∃cs,w.heap[ob]?=some (.cells cs 36 (0,0))/\cs.size=n/\ ∀k,k<n-> ∃pv,cs[k]?=some pv/\(k<i->OutOne w pv (M k))/\(i<=k->pv= .pointer none)
theorem OutOne.below {w w':World} {pv:Value} {mo:Option VM} (h:OutOne w pv mo) (k:Below w.heap.size w w'):OutOne w' pv mo:=by
 cases mo with
 |none=>exact h
 |some m=>obtain⟨b,e,h⟩:=h;exact⟨b,e,h.below k⟩
theorem OutAt.below {w w':World} {ob n i:Nat} {M:Nat->Option VM} (h:OutAt w ob n i M) (k:Below w.heap.size w w'):OutAt w' ob n i M:=by
 obtain⟨cs,hr,hs,ha⟩:=h
 exact⟨cs,(k.block ob (zd hr)).trans hr,hs,fun j hj=>by
  obtain⟨pv,e,h1,h2⟩:=ha j hj;exact⟨pv,e,fun h=>(h1 h).below k,h2⟩⟩
theorem OutAt.skip {w:World} {ob n i:Nat} {M:Nat->Option VM} (h:OutAt w ob n i M) (hM:M i=none):OutAt w ob n (i+1) M:=by
 obtain⟨cs,hr,hs,ha⟩:=h;refine⟨cs,hr,hs,fun j hj=>?_⟩;obtain⟨pv,e,h1,h2⟩:=ha j hj;refine⟨pv,e,fun h=>?_,fun h=>h2 (by omega)⟩;by_cases hji:j<i
 ·exact h1 hji
 ·obtain rfl:j=i:=by omega
  rw [hM];exact h2 (by omega)
theorem OutAt.add {w:World} {ob n i b:Nat} {M:Nat->Option VM} {m:VM} (h:OutAt w ob n i M) (hi:i<n) (hM:M i=some m) (hc:CsAt w b m.st):OutAt (w.setCell ⟨ob,i,none⟩ (.pointer (some ⟨b,0,none⟩))) ob n (i+1) M:=by
 obtain⟨cs,hr,hs,ha⟩:=h;refine⟨_,zzS _ ob i _ _ _ hr,by simp [hs],fun j hj=>?_⟩;obtain⟨pv,e,h1,h2⟩:=ha j hj;by_cases hji:j=i
 ·subst hji
  refine⟨.pointer (some ⟨b,0,none⟩),by simp [hs,hj],fun _=>?_,fun h=>absurd h (by omega)⟩;rw [hM];exact⟨b,rfl,hc.setFar hr⟩
 ·refine⟨pv,by rw [Array.getElem?_setIfInBounds_ne (fun h=>hji h.symm)];exact e,fun h=>?_,fun h=>h2 (by omega)⟩
  have:=h1 (by omega)
  cases hMj:M j with
  |none=>rw [hMj]at this;exact this
  |some mj=>rw [hMj]at this;obtain⟨bj,ej,hj2⟩:=this;exact⟨bj,ej,hj2.setFar hr⟩
theorem OutAt.cell {w:World} {ob n i k:Nat} {M:Nat->Option VM} (h:OutAt w ob n i M) (hi:i<=k) (hk:k<n):w.cell? ⟨ob,k,none⟩=some (.pointer none)/\w.frozen? ⟨ob,k,none⟩=false:=by
 obtain⟨cs,hr,hs,ha⟩:=h;obtain⟨pv,e,h1,h2⟩:=ha k hk;exact⟨by rw [zzq0 _ _ _ _ _ _ hr,e,h2 hi],zzq5 _ _ _ _ _ hr⟩
theorem OutAt.lt {w:World} {ob n i:Nat} {M:Nat->Option VM} (h:OutAt w ob n i M):ob<w.heap.size:=by
 obtain⟨cs,hr,-⟩:=h;exact zd hr
theorem zpn:(Tryz.prog.info? 36).map (fun i=>(i.zero,i.size,i.bytes))=some (some (.pointer none),1,8):=by kernel_rfl
theorem zm5 (n:Nat) (hn:n<=1000000): ∃arr:Array Value,arr.size=n/\(∀k,k<n->arr[k]?=some (.pointer none)) /\
  ∀wx:World,(Instr.makeSlice 33 (.int .i64 (n:Int)) (.int .i64 (n:Int))).run Tryz.prog wx= .ok (.slice (some ⟨wx.heap.size,0,none⟩) n n) (wx.alloc (.cells arr 36)):=by
 obtain⟨i0,hi,hz0,hz1,hz2⟩:=info_parts zpn;refine⟨madeCells (Value.pointer none).cells (n*i0.size),by rw [size_madeCells,hz1,Nat.mul_one],fun k hk=>?_,fun wx=>?_⟩
 ·rw [hz1,Nat.mul_one]
  have h3:(Value.pointer none).cells=#[.pointer none]:=by rfl
  rw [h3];unfold madeCells;rw [Array.getElem?_map,Array.getElem?_range,if_pos (by omega)];simp [Nat.mod_one]
 ·have:=run_make (P:=Tryz.prog) wx 33 36 i0 _ Tryz.underlying33 hi hz0 .i64 .i64 n n (by omega) (Int.le_refl _) (by rw [hz2];omega) (by omega)
  exact zz66
theorem zmf {w:World} {ob n:Nat} {arr:Array Value} (hr:w.heap[ob]?=some (.cells arr 36 (0,0))) (hs:arr.size=n) (ha: ∀k,k<n->arr[k]?=some (.pointer none)) (M:Nat->Option VM):OutAt w ob n 0 M:=
 ⟨arr,hr,hs,fun k hk=>⟨_,ha k hk,fun h=>absurd h (zzC _),fun _=>rfl⟩⟩
abbrev S7 (b:Nat) (s:VSt) (xo:Option Addr) (xc:Nat) (yo:Option Addr) (yc:Nat) (to':Option Addr) (tc:Nat) (w:World):Prop:=
 zzrSt w b s xo xc yo yc to' tc
abbrev nrow (s:VSt) (a1:Option Addr) (c1:Nat) (a2:Option Addr) (c2:Nat) (a3:Option Addr) (c3:Nat):Obj:=
 .cells #[.int .i64 s.frame,.slice a1 s.x.length c1,.slice a2 s.y.length c2,.slice a3 s.tries.length c3,.bool s.mt,.int .i64 s.recv,.int .i64 s.frm] 40
def zbT (f:Nat) (u:RUnit):Int:=if zbt f u≠0 then zbt f u else(zbO u).1.2
def zks (f:Nat) (u:RUnit) (w:World) (e:Ending) (w':World):Prop:=
 ∃oo ol oc,e= .returned (.tuple #[.slice oo ol oc,.int .i64 (zbT f u)])/\(zbT f u≠0->oo=none/\ol=0/\oc=0) /\
  (zbT f u=0-> ∃ob,oo=some ⟨ob,0,none⟩/\ol=u.code.length/\w.heap.size<=ob/\OutAt w' ob u.code.length u.code.length (zbO u).2/\ ∀k m,(zbO u).2 k=some m->VLen m.st)
theorem zjZ (f:Nat) (u:RUnit) (lo fo go co:zzA) (lc fc gc cc:Nat) (w:World) (h:ChkAt w f u lo fo go co):
  Calls Tryz.prog 9 #[.agg (zzu u lo lc fo fc go gc co cc)] w fun e w'=>zks (f+1) u w e w'/\Below w.heap.size w w':=by
 unfold zzu;have hbx:=zd3 w u lo fo go co lc fc gc cc;have hba:Below w.heap.size w (w.alloc (.cells (zzu u lo lc fo fc go gc co cc) 27)):=zzE _ _;have hc:=h.below hba
 have HQ:Hid (∀e w',(∃oo ol oc,e= .returned (.tuple #[.slice oo ol oc,.int .i64 (zbT (f+1) u)])/\(zbT (f+1) u≠0->oo=none/\ol=0/\oc=0) /\
  (zbT (f+1) u=0-> ∃ob,oo=some ⟨ob,0,none⟩/\ol=u.code.length/\w.heap.size<=ob/\OutAt w' ob u.code.length u.code.length (zbO u).2/\ ∀k m,(zbO u).2 k=some m->VLen m.st))/\Below w.heap.size w w'->zks (f+1) u w e w'/\Below w.heap.size w w'):=zzH (fun e w' h=>h)
 obtain⟨V,hV⟩: ∃V,V=zbT (f+1) u:=⟨_,rfl⟩;rw [<-hV]at HQ;have HV:=zzH hV;clear hV h;go_in;go_upto_region 1 with fail;generalize w.alloc (.cells (zzu u lo lc fo fc go gc co cc) 27)=W at *;generalize hB:w.heap.size=B at *;refine zzK3 hba hbx hc fun HBA HBX HC=>?_;have c0:=hbx.c0;have c1:=hbx.c1;have c2:=hbx.c2;have c3:=hbx.c3;have c4:=hbx.c4;have c5:=hbx.c5;have HCK:=zzH (zh3 f u lo fo go co lc fc gc cc W hc.rows hc.sp hc.up hc.lits hc.cap hc.nm);clear hba hbx hc;obtain⟨ce,hce⟩: ∃ce,ce=zbt (f+1) u:=⟨_,rfl⟩;obtain⟨ci,hci⟩: ∃ci,ci=zb8 (f+1) u:=⟨_,rfl⟩;rw [<-hce,<-hci]at HCK;have HCE:=zzH hce;clear hce hci;go_wp2_with fail;refine HCK.out.mono ?_;rintro e w1 ⟨rfl,hb1⟩;have HB1:=zzH hb1;clear hb1 HCK c0 c1 c2 c3 c4 c5;have HFIN:Hid (∀wx,Below w1.heap.size w1 wx->Below B w wx):=zzH (fun wx h=>(HBA.out.trans (HB1.out.mono (by rw [<-hB];rw [hB];exact HBA.out.size |> fun h=>by omega))).trans (h.mono (by have:=HB1.out.size;have:=HBA.out.size;omega)));by_cases h0:ce=0
 ·have hU:=zd6 (f:=f+1) (u:=u) (by rw [<-HCE.out];exact h0)
  have hn1:=hU.n1;have hn2:=hU.n2;have HEX:=zzH (zfU B u lo fo go co lc fc gc cc w1 (HBX.out.below HB1.out) (HC.out.up.below HB1.out) hU);have E1:Hid (V=(zbO u).1.2):=zzH (by rw [HV.out];unfold zbT;rw [<-HCE.out,if_neg (fun h=>h h0)]);obtain⟨n,hn⟩: ∃n,n=u.code.length:=⟨_,rfl⟩;rw [<-hn]at hn1 hn2;subst h0;go_wp2_with fail;refine HEX.out.mono ?_;rintro e w2 ⟨⟨pv,rfl,hx1,hx2⟩,hb2⟩;rw [<-E1.out]at hx1 hx2 ⊢;have HB2:=zzH hb2;obtain⟨xi,hxi⟩: ∃xi,xi=(zbO u).1.1:=⟨_,rfl⟩;rw [<-hxi];clear hb2 HEX hxi;by_cases hV0:V=0
  ·obtain⟨X,mb,mc,a,rfl,hX,hM⟩:=hx2 hV0
   have b5:=((HBX.out.below HB1.out).below HB2.out).c5;rw [<-hn]at hX hM HQ b5;have HVZ:=zzH hV0;clear hx1 hx2 E1;obtain⟨arr,hs,hz,hmk⟩:=zm5 n (by omega);have hmkw:=hmk w2;have e1:=zw hX (k:=1) (by simp);simp only [zzX4]at e1;have hor:=zzF w2 (.cells arr 36);have hob:=(zzR w2.heap.size w2).alloc (zzL _) (.cells arr 36);have HO:Hid (OutAt (w2.alloc (.cells arr 36)) w2.heap.size n 0 (zbO u).2):=zzH (zmf hor hs hz _);have e1':(w2.alloc (.cells arr 36)).cell? ⟨X,1,none⟩=some (.slice (some ⟨mb,0,none⟩) n mc):=(hob.cell (p:=⟨X,1,none⟩) (zd hX)).trans e1;refine zzK5 hM hX hob hmk hn fun HHM HHX HOB HMK HN=>?_;generalize(zbO u).2=M at *;subst hV0;clear hs hz hmk hX hM hob hor e1 hn;go_upto_region 8 with fail;generalize w2.alloc (.cells arr 36)=W8 at *;generalize hOB:w2.heap.size=ob at *;clear hmkw b5;go_wp2_with fail;go_loopw [34] (fun iv wr=> ∃k:Nat,k<=n/\iv= .int .i64 k/\Hid (OutAt wr ob n k M)/\Hid (Below ob w2 wr)) (fun iv _=>n-(intOf iv).toNat)
   case atStart=>exact⟨0,zzZ _,rfl,HO,HOB⟩
   case round=>
    obtain⟨k,hk,rfl,HOK,HBK⟩:=hrel;rename World=>wr
    by_cases hlt:k<n
    ·skip
     obtain⟨⟨csi,gi,hmi⟩,hai⟩:=HHM.out;obtain⟨pv,av,wv,f0,f1,f2,h1⟩:=hmi.one k hlt;have c0:w2.cell? ⟨mb,k*3,none⟩=some pv:=by rw [zzq0 _ _ _ _ _ _ hmi.row];exact f0
     have hmb:mb<ob:=by rw [<-hOB];exact zd hmi.row
     have hXb:X<ob:=by rw [<-hOB];exact zd HHX.out
     have c0r:wr.cell? ⟨mb,k*3,none⟩=some pv:=(HBK.out.cell (p:=⟨mb,k*3,none⟩) hmb).trans c0
     have e1:wr.cell? ⟨X,1,none⟩=some (.slice (some ⟨mb,0,none⟩) n mc):=by
      rw [HBK.out.cell (p:=⟨X,1,none⟩) hXb,zzq0 _ _ _ _ _ _ HHX.out];have:=HN.out;simp [this]
     have hk0:(0:Int)<=(k:Int):=by omega
     have hk1:(k:Int)<(n:Int):=by omega
     clear f0 f1 f2 c0 hmi
     cases hMk:M k with
     |none=>
      rw [hMk]at h1;obtain⟨rfl,rfl,rfl⟩:=h1;have HSK:=zzH (HOK.out.skip hMk);clear hMk hai;go_wp2_with fail;refine⟨⟨k+1,hlt,by go_num,HSK,HBK⟩,by simp [intOf];omega⟩
     |some m=>
      rw [hMk]at h1;obtain⟨⟨b,rfl,hsb⟩,rfl,-⟩:=h1;have him:=hai k m hMk;unfold zdJ at c0r;have hlen:=(him.st.ok (by omega)).len;have hbb:b<ob:=by rw [<-hOB];exact hsb.lt
      have hst:=hsb.below (by rw [hOB];exact HBK.out:Below w2.heap.size w2 wr);obtain⟨xo,xc,yo,yc,to',tc,q0,q1,q2,q3,q4,q5,q6,hL⟩:=hst.cells;obtain⟨d0,d1⟩:=HOK.out.cell (zzL k) hlt;have HADD:Hid (∀w' bb,OutAt w' ob n k M->CsAt w' bb m.st->OutAt (w'.setCell ⟨ob,k,none⟩ (.pointer (some ⟨bb,0,none⟩))) ob n (k+1) M):=zzH (fun w' bb h h'=>h.add hlt hMk h');have HLL:=zzH hL;have HLN:=zzH hlen;clear hMk hai him hsb hst hL hlen;generalize m.st=s at *;have hbw:b<wr.heap.size:=by have:=HBK.out.size;have:=hOB;have:=HOK.out.lt;omega
      have hS: ∀w',Below wr.heap.size wr w'->S7 b s xo xc yo yc to' tc w':=fun w' h=>⟨(h.cell (p:=⟨b,0,none⟩) hbw).trans q0,(h.cell (p:=⟨b,1,none⟩) hbw).trans q1,(h.cell (p:=⟨b,2,none⟩) hbw).trans q2,(h.cell (p:=⟨b,3,none⟩) hbw).trans q3,(h.cell (p:=⟨b,4,none⟩) hbw).trans q4,(h.cell (p:=⟨b,5,none⟩) hbw).trans q5,(h.cell (p:=⟨b,6,none⟩) hbw).trans q6⟩
      have KS:Hid (S7 b s xo xc yo yc to' tc wr.drew):=zzH ⟨q0,q1,q2,q3,q4,q5,q6⟩
      have HCL:Hid (Calls Tryz.prog 19 #[.slice xo s.x.length xc] wr.drew fun e w5=> ∃a1 c1,e= .returned (.slice a1 s.x.length c1)/\Hid (S7 b s xo xc yo yc to' tc w5) /\
        Hid (Calls Tryz.prog 19 #[.slice yo s.y.length yc] w5 fun e w6=> ∃a2 c2,e= .returned (.slice a2 s.y.length c2)/\Hid (S7 b s xo xc yo yc to' tc w6) /\
        Hid (Calls Tryz.prog 19 #[.slice to' s.tries.length tc] w6 fun e w7=> ∃a3 c3,e= .returned (.slice a3 s.tries.length c3)/\Hid (S7 b s xo xc yo yc to' tc w7)/\Hid (S7 b s xo xc yo yc to' tc (w7.alloc (nrow s a1 c1 a2 c2 a3 c3)))/\Hid (S7 b s xo xc yo yc to' tc ((w7.alloc (nrow s a1 c1 a2 c2 a3 c3)).setCell ⟨ob,k,none⟩ (.pointer (some ⟨w7.heap.size,0,none⟩)))) /\
         (w7.alloc (nrow s a1 c1 a2 c2 a3 c3)).cell? ⟨ob,k,none⟩=some (.pointer none)/\(w7.alloc (nrow s a1 c1 a2 c2 a3 c3)).frozen? ⟨ob,k,none⟩=false/\Hid (OutAt ((w7.alloc (nrow s a1 c1 a2 c2 a3 c3)).setCell ⟨ob,k,none⟩ (.pointer (some ⟨w7.heap.size,0,none⟩))) ob n (k+1) M)/\Hid (Below ob w2 ((w7.alloc (nrow s a1 c1 a2 c2 a3 c3)).setCell ⟨ob,k,none⟩ (.pointer (some ⟨w7.heap.size,0,none⟩))))))):=zzH (by
       have hd:Below wr.heap.size wr wr.drew:=(zzR _ _).drew;refine(zdw s.x xo xc wr.drew (HLL.out.x.below hd) (zzY HLN.out.x (by decide))).mono ?_;rintro e w5 ⟨⟨v1,rfl,o1⟩,h5⟩;obtain⟨a1,c1,rfl,i1,l1⟩:=o1.ints;have h5':Below wr.heap.size wr w5:=hd.trans h5;refine⟨a1,c1,rfl,zzH (hS w5 h5'),zzH ?_⟩;refine(zdw s.y yo yc w5 (HLL.out.y.below h5') (zzY HLN.out.y (by decide))).mono ?_;rintro e w6 ⟨⟨v2,rfl,o2⟩,h6⟩;obtain⟨a2,c2,rfl,i2,l2⟩:=o2.ints;have h6':Below wr.heap.size wr w6:=h5'.trans (h6.mono h5'.size);refine⟨a2,c2,rfl,zzH (hS w6 h6'),zzH ?_⟩;refine(zdw s.tries to' tc w6 (HLL.out.t.below h6') HLN.out.t).mono ?_;rintro e w7 ⟨⟨v3,rfl,o3⟩,h7⟩;obtain⟨a3,c3,rfl,i3,l3⟩:=o3.ints;have h7':Below wr.heap.size wr w7:=h6'.trans (h7.mono h6'.size);have h8:Below w7.heap.size w7 (w7.alloc (nrow s a1 c1 a2 c2 a3 c3)):=zzE _ _;have h8':Below wr.heap.size wr (w7.alloc (nrow s a1 c1 a2 c2 a3 c3)):=h7'.trans (h8.mono h7'.size);have ho:=HOK.out.below h8';obtain⟨d0',d1'⟩:=ho.cell (zzL k) hlt;refine⟨a3,c3,rfl,zzH (hS w7 h7'),zzH (hS _ h8'),zzH ?_,d0',d1',zzH (HADD.out _ _ ho ?_),zzH ((HBK.out.trans (h8'.mono (zzb HOK.out.lt))).setCell (p:=⟨ob,k,none⟩) (zzL _) _)⟩
       ·have hne:b≠ob:=by omega
        have h9:=hS _ h8';exact⟨(zcb hne).trans h9.1,(zcb hne).trans h9.2.1,(zcb hne).trans h9.2.2.1,(zcb hne).trans h9.2.2.2.1,(zcb hne).trans h9.2.2.2.2.1,(zcb hne).trans h9.2.2.2.2.2.1,(zcb hne).trans h9.2.2.2.2.2.2⟩
       exact⟨a1,c1,a2,c2,a3,c3,zzF _ _,((i1.below h6).below h7).below h8,(i2.below h7).below h8,i3.below h8,l1,l2,l3⟩)
      clear hS HLL HLN HADD d0 d1;go_upto_region 13 with fail
      go_region_held3 (fun w'=>w'.cell? ⟨b,0,none⟩=some (.int .i64 s.frame)/\w'.cell? ⟨b,1,none⟩=some (.slice xo s.x.length xc)/\w'.cell? ⟨b,2,none⟩=some (.slice yo s.y.length yc)/\w'.cell? ⟨b,3,none⟩=some (.slice to' s.tries.length tc)/\w'.cell? ⟨b,4,none⟩=some (.bool s.mt)/\w'.cell? ⟨b,5,none⟩=some (.int .i64 s.recv)/\w'.cell? ⟨b,6,none⟩=some (.int .i64 s.frm)) (first|with_reducible exact KS.out|with_reducible exact K5.out|with_reducible exact K6.out|with_reducible exact K7.out|with_reducible exact K8.out|with_reducible exact K9.out)
       (first
        |(go_at_call 19;(with_reducible refine HC3.out.mono ?_);rintro e w7 ⟨a3,c3,rfl,K7,K8,K9,d0,d1,FO,FB⟩)
        |(go_at_call 19;(with_reducible refine HC2.out.mono ?_);rintro e w6 ⟨a2,c2,rfl,K6,HC3⟩)
        |(go_at_call 19;(with_reducible refine HCL.out.mono ?_);rintro e w5 ⟨a1,c1,rfl,K5,HC2⟩))
      all_goals
       go_wp2_with fail;refine⟨⟨k+1,hlt,by go_num,FO,FB⟩,by simp [intOf];omega⟩
    ·obtain rfl:k=n:=by omega
     go_wp2;go_ret2
     first|refine HQ.out _ _ ?_|(rw [hB];refine HQ.out _ _ ?_)
     exact⟨⟨some ⟨ob,0,none⟩,k,k,rfl,fun h=>absurd rfl h,fun _=>⟨ob,rfl,rfl,by have h1:=(HFIN.out _ HB2.out).size;have h2:=hB;have h3:=hOB;omega,HOK.out,fun k' m hm=>((HHM.out.2 k' m hm).st.ok (by omega)).len⟩⟩,(HFIN.out _ HB2.out).trans (HBK.out.mono (by have h1:=(HFIN.out _ HB2.out).size;have h2:=hB;have h3:=hOB;omega))⟩
  ·have u1 : (V != 0) = true := by simpa using hV0
   have HV0:=zzH hV0;clear hV0 hx2 hx1;go_wp2;go_ret2
   first|refine HQ.out _ _ ?_|(rw [hB];refine HQ.out _ _ ?_)
   exact⟨⟨none,0,0,rfl,fun _=>⟨rfl,rfl,rfl⟩,fun h=>absurd h HV0.out⟩,HFIN.out _ HB2.out⟩
 ·have E:Hid (V=ce):=zzH (by rw [HV.out];unfold zbT;rw [<-HCE.out,if_pos h0])
  have u1 : (ce != 0) = true := by simpa using h0
  have HC0:=zzH h0;clear h0;go_wp2;go_ret2;rw [<-E.out]
  first|refine HQ.out _ _ ?_|(rw [hB];refine HQ.out _ _ ?_)
  exact⟨⟨none,0,0,rfl,fun _=>⟨rfl,rfl,rfl⟩,fun h=>absurd (by rw [<-E.out];exact h) HC0.out⟩,HFIN.out _ (zzR _ _)⟩
end Go.Proofs.YthajedcbgnloeaaGreatDoor
