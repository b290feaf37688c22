import Derived.Test.YtepjanajflkakaaGreatDoorRows
import Derived.Test.YtepjanajflkakaaGreatDoorW02
import Derived.Test.YtepjanajflkakaaGreatDoorW04
import Derived.Test.YtepjanajflkakaaGreatDoorW05
namespace Go.Proofs.YtepjanajflkakaaGreatDoor
open Go.RowKit
set_option linter.unusedVariables false
set_option linter.unusedSimpArgs false
set_option maxRecDepth 100000
set_option maxHeartbeats 0
theorem ziK:(Tryz.prog.info? 116).map (fun i=>(i.zero,i.size,i.bytes))=some (some (.agg #[.int .i64 0,.int .i64 0,.int .i64 0,.string ⟨#[]⟩,.string ⟨#[]⟩,.int .i64 0,.slice none 0 0,.string ⟨#[]⟩,.int .i64 0]),9,112):=by kernel_rfl
def ziA (f:Nat):Prop:= ∀(t:Tm) (so:Option Addr) (c:Nat) (w:World),SlAt w 9 (TmAt w f) so t.items->t.Ok->zv (f+1) t<=1000000 ->
 Calls Tryz.prog 78 #[.agg #[.int .i64 t.kind,.int .i64 t.int,.int .i64 t.gen,.string t.name,.string t.func,.int .i64 t.arity,.slice so t.items.length c,.string t.bytes,.int .i64 t.bits]] w
  fun e w'=>(∃so' c',e= .returned (.agg #[.int .i64 t.kind,.int .i64 t.int,.int .i64 t.gen,.string t.name,.string t.func,.int .i64 t.arity,.slice so' t.items.length c',.string t.bytes,.int .i64 t.bits])/\SlS w' (SepT w' f) 116 9 w.heap.size w'.heap.size so' t.items)/\Below w.heap.size w w'
def zfj (f:Nat):Prop:= ∀(l:List Tm) (ao:Option Addr) (c:Nat) (w:World),SlAt w 9 (TmAt w f) ao l->zR (l.map (zv f))+l.length<=1000000 ->
 Calls Tryz.prog 128 #[.slice ao l.length c] w
  fun e w'=>(∃ao' c',e= .returned (.slice ao' l.length c')/\SlS w' (SepT w' f) 116 9 w.heap.size w'.heap.size ao' l)/\Below w.heap.size w w'
theorem zdN {w:World} {B:Nat} {T:TypeId} {v0 v1 v2 v3 v4 v5 v6 v7 v8:Value} {fr:Nat × Nat} (h:w.heap[B]?=some (.cells #[v0,v1,v2,v3,v4,v5,v6,v7,v8] T fr)):
  w.cell? ⟨B,0,none⟩=some v0/\w.cell? ⟨B,1,none⟩=some v1/\w.cell? ⟨B,2,none⟩=some v2/\w.cell? ⟨B,3,none⟩=some v3/\w.cell? ⟨B,4,none⟩=some v4/\w.cell? ⟨B,5,none⟩=some v5/\w.cell? ⟨B,6,none⟩=some v6/\w.cell? ⟨B,7,none⟩=some v7/\w.cell? ⟨B,8,none⟩=some v8:=by
 have hc:=fun j=>zzq0 w B j _ _ _ h
 exact⟨hc 0,hc 1,hc 2,hc 3,hc 4,hc 5,hc 6,hc 7,hc 8⟩
theorem zer (w:World) (o0 o1:Obj):((w.alloc o0).alloc o1).heap[w.heap.size]?=some o0/\((w.alloc o0).alloc o1).heap[w.heap.size+1]?=some o1/\Below w.heap.size w ((w.alloc o0).alloc o1)/\((w.alloc o0).alloc o1).heap.size=w.heap.size+2:=by
 have s: ∀(x:World) (o:Obj),(x.alloc o).heap.size=x.heap.size+1:=fun x o=>by simp
 have e1:=zzF (w.alloc o0) o1;rw [s]at e1;exact⟨(Below.heap_alloc _ _ _ (by rw [s];omega)).trans (zzF w o0),e1,(zzE _ _).alloc (by rw [s];omega) _,by rw [s,s]⟩
theorem zhz (f:Nat) (HC:zfj f):ziA f:=by
 intro t so c w hs ho hcap;obtain⟨e0,e1,eb,es⟩:=zer w (.cells #[.int .i64 t.kind,.int .i64 t.int,.int .i64 t.gen,.string t.name,.string t.func,.int .i64 t.arity,.slice so t.items.length c,.string t.bytes,.int .i64 t.bits] 116) (.cells #[.int .i64 0,.int .i64 0,.int .i64 0,.string ⟨#[]⟩,.string ⟨#[]⟩,.int .i64 0,.slice none 0 0,.string ⟨#[]⟩,.int .i64 0] 116);refine zzK6 e0 e1 eb es hs HC fun HE0 HE1 HB HSZ HS HCC=>?_;have HCAP:Hid (zR (t.items.map (zv f))+t.items.length<=1000000):=zzH (by have:300+t.items.length+zR (t.items.map (zv f))<=1000000:=hcap;omega);clear e0 e1 eb es hs ho hcap HC;go_in;go_upto_region 1 with fail;generalize(w.alloc _).alloc _=W at *;have c6:W.cell? ⟨w.heap.size,6,none⟩=some (.slice so t.items.length c):=by rw [zzq0 _ _ _ _ _ _ HE0.out];rfl
 have hcs:=HCC.out t.items so c W (HS.out.mono HB.out fun _ _ h=>h.below HB.out) HCAP.out;have HCS:=zzH hcs;clear hcs;generalize hN:w.heap.size=N at *;have HN:=zzH hN;clear hN;go_upto_region 2 with(go_at_call 128;refine HCS.out.mono ?_;rintro e w2 ⟨⟨so',c',rfl,hsl⟩,hb2⟩;have g6:w2.cell? ⟨N,6,none⟩=some (.slice so t.items.length c):=(hb2.cell (p:=⟨N,6,none⟩) (zb HE0.out)).trans c6;have f6:w2.frozen? ⟨N,6,none⟩=false:=zzq2 _ _ 6 _ _ ((hb2.block _ (zb HE0.out)).trans HE0.out));have h0:=zzS w2 N 6 _ _ (.slice so' t.items.length c') ((hb2.block _ (zb HE0.out)).trans HE0.out);have h1:=(zzq3 w2 ⟨N,6,none⟩ (N+1) (.slice so' t.items.length c') (by simp)).trans ((hb2.block _ (zb HE1.out)).trans HE1.out);have hk: ∀b,W.heap.size<=b->(w2.setCell ⟨N,6,none⟩ (.slice so' t.items.length c')).heap[b]?=w2.heap[b]?:=fun b hb=>zzq3 _ _ _ _ (by show b≠N;have:=HSZ.out;omega)
 have hbb:Below N w (w2.setCell ⟨N,6,none⟩ (.slice so' t.items.length c')):=(HB.out.trans (hb2.mono (by have:=HSZ.out;omega))).setCell (zzL _) _;have hsz2:(w2.setCell ⟨N,6,none⟩ (.slice so' t.items.length c')).heap.size=w2.heap.size:=by simp [World.setCell]
 generalize w2.setCell ⟨N,6,none⟩ (.slice so' t.items.length c')=w3 at *;rename_i K hK;refine wp_region_list ?_;refine wpList_load_row rfl 116 (.tmp 1) rfl N rfl 116 _ _ _ h0 Tryz.underlying116 rfl (by kernel_rfl) ?_;refine wpList_store_row rfl 116 (.tmp 2) (.tmp 7) rfl (N+1) #[.int .i64 t.kind,.int .i64 t.int,.int .i64 t.gen,.string t.name,.string t.func,.int .i64 t.arity,.slice so' t.items.length c',.string t.bytes,.int .i64 t.bits] rfl rfl 116 _ h1 (by kernel_rfl) rfl (by simp [Value.oneCell']) ?_;refine wpList_nil ?_;refine hK _ _ ?_;refine wp_ret ?_;refine zzj (results_cell_row rfl _ _ (N+1) _ _ _ _ rfl (setRow_heap _ _ _ _ _ _ h1) Tryz.underlying116 rfl (by kernel_rfl)) rfl ?_;have hkk: ∀b,W.heap.size<=b->b<w2.heap.size->(w3.setRow (N+1) #[.int .i64 t.kind,.int .i64 t.int,.int .i64 t.gen,.string t.name,.string t.func,.int .i64 t.arity,.slice so' t.items.length c',.string t.bytes,.int .i64 t.bits]).heap[b]?=w2.heap[b]?:=fun b hb _=>(setRow_other _ _ _ _ (by have:=HSZ.out;omega)).trans (hk b hb)
 have hs3:(w3.setRow (N+1) #[.int .i64 t.kind,.int .i64 t.int,.int .i64 t.gen,.string t.name,.string t.func,.int .i64 t.arity,.slice so' t.items.length c',.string t.bytes,.int .i64 t.bits]).heap.size=w3.heap.size:=by simp [World.setRow]
 rw [HN.out];exact⟨⟨so',c',rfl,hsl.kept hkk (by have:=HSZ.out;omega) (by omega) fun a e cs x ha he hx=>hx.kept (fun b b1 b2=>hkk b (zzY ha b1) (zzW b2 he)) (zzL _) (zzL _)⟩,below_setRow hbb (Nat.le_succ _) _⟩
theorem SepT.below {w w':World} {f lo hi:Nat} {cs:List Value} {t:Tm} (h:SepT w f lo hi cs t) (hb:Below w.heap.size w w') (hh:hi<=w.heap.size):SepT w' f lo hi cs t:=h.kept (fun b _ b2=>hb.block b (zzW b2 hh)) (zzL _) (zzL _)
theorem zff {f:Nat} {l:List Tm} {t:Tm} (h:t∈l):zv f t<=zR (l.map (zv f)):=by
 induction l with
 |nil=>cases h
 |cons x l ih=>
  show _<=zv f x+zR (l.map (zv f));rcases List.mem_cons.1 h with rfl|h
  ·omega
  ·have:=ih h;omega
theorem zfF (f:Nat) (HC: ∀g,f=g+1->ziA g):zfj f:=by
 intro l ao c w hs hcap;refine zzK3 hs HC hcap fun HS HCC HCAP=>?_;have hl:l.length<=1000000:=by omega
 clear hs HC hcap;obtain⟨i0,hi,hz0,hz1,hz2⟩:=info_parts ziK;refine zzK4 hi hz0 hz1 hz2 fun HI HZ HZ1 HZ2=>?_;clear hi hz0 hz1 hz2;go_in;go_upto_region 2 with(at_make;refine wpList_make_own _ rfl _ _ 22 rfl w.heap.size 116 i0 _ 9 Tryz.underlying22 HI.out HZ.out HZ1.out .i64 .i64 (l.length:Int) l.length rfl rfl rfl (by rw [HZ2.out];omega) (by unfold maxLen;omega) (zzL _) ?_;intro w1 ho1 hg1);have hb1:Below w.heap.size w w1:=(zzR _ _).grown hg1 (zzL _) (fun k e=>by cases e);have HA:Hid (AccS w1 (SepT w1 f) 116 9 w.heap.size (.slice (some ⟨w.heap.size,0,none⟩) 0 l.length) (l.take 0)):=zzH (by rw [List.take_zero];exact AccS.made ho1);have HB:=zzH hb1;clear ho1 hg1 hb1;obtain⟨V0,hV0⟩: ∃V0,V0=Value.slice (some ⟨w.heap.size,0,none⟩) 0 l.length:=⟨_,rfl⟩;rw [<-hV0]at HA ⊢;clear hV0;generalize hN:w.heap.size=N at *;have HN:=zzH hN;clear hN;go_wp2_with fail;go_loopw [11,3] (fun iv ov wr=> ∃(k:Nat),k<=l.length/\iv= .int .i64 k/\Hid (AccS wr (SepT wr f) 116 9 N ov (l.take k))/\Hid (Below N w wr)) (fun i _ _=>l.length-(intOf i).toNat)
 case atStart=>exact⟨0,zzZ _,rfl,HA,HB⟩
 case round=>
  obtain⟨k,hk,rfl,HK,HW⟩:=hrel;rename World=>wr
  rename Value=>ov
  by_cases hlt:k<l.length
  ·cases f with
   |zero=>have:=HS.out.zero;subst this;simp at hlt
   |succ g=>
    have hbw:Below w.heap.size w wr:=by rw [HN.out];exact HW.out
    have hs2:=HS.out.tms hbw;obtain⟨b,off,ai,ci,hao,hb,q0,q1,q2,q3,q4,q5,q6,q7,q8,hit,hok⟩:=hs2.tm hlt;subst hao;have hct:zv (g+1) l[k]<=1000000:=by have:=zff (f:=g+1) (zzM hlt);have:=HCAP.out;omega
    have htk:l.take (k+1)=l.take k++ [l[k]]:=by rw [List.take_add_one,zzq4 hlt];rfl
    have hlk:(l.take k).length=k:=by rw [List.length_take];omega
    generalize l[k]=t at *;obtain⟨xs,a,e,ho,hv,hx⟩:=HK.out;rw [hlk]at ho hv;obtain⟨ao',c0,hov,-⟩:=HK.out.sl;rw [hlk]at hov;have hba:=(zzR wr.heap.size wr).alloc (zzL _) (.cells #[.int .i64 t.kind,.int .i64 t.int,.int .i64 t.gen,.string t.name,.string t.func,.int .i64 t.arity,.slice ai t.items.length ci,.string t.bytes,.int .i64 t.bits] 116);have hcp:=HCC.out g rfl t ai ci _ (hit.tms hba) hok hct;refine zzK8 hcp htk hlk ho hv hx hba hok fun HCP HTK HLK HO HV HX HBA HOK=>?_;clear hcp hit hct htk hlk ho hv hx hba hs2 hok HK;subst hov;have hbx:=zzF wr (.cells #[.int .i64 t.kind,.int .i64 t.int,.int .i64 t.gen,.string t.name,.string t.func,.int .i64 t.arity,.slice ai t.items.length ci,.string t.bytes,.int .i64 t.bits] 116);go_upto_region 5 with fail;generalize wr.alloc _=Wb at *;obtain⟨x0,x1,x2,x3,x4,x5,x6,x7,x8⟩:=zdN hbx;clear q0 q1 q2 q3 q4 q5 q6 q7 q8
    go_upto_region 6 with(first
     |(go_at_call 78;refine HCP.out.mono ?_;rintro e2 w2 ⟨⟨so',c',rfl,hsl⟩,hb2⟩;have hb3:Below wr.heap.size wr (w2.alloc (.cells #[.int .i64 t.kind,.int .i64 t.int,.int .i64 t.gen,.string t.name,.string t.func,.int .i64 t.arity,.slice so' t.items.length c',.string t.bytes,.int .i64 t.bits] 116)):=(HBA.out.trans (hb2.mono HBA.out.size)).alloc (zzY HBA.out.size hb2.size) _;have ho3:=HO.out.kept (zT hb3 none) (by cases ao'<;>simp [Value.ownBlock]);refine zzK4 hsl hb2 hb3 ho3 fun HSL HB2 HB3 HO3=>?_;clear hsl hb2 hb3 ho3)
     |(at_builtin;refine wpList_append_lies _ rfl (.tmp 15) (.tmp 18) 22 rfl N 116 i0 _ 9 112 Tryz.underlying22 HI.out HZ.out HZ1.out HZ2.out rfl (by decide) _ k xs rfl HO3.out ⟨w2.heap.size,0,none⟩ 1 1 (zca t so' c') rfl rfl (World.news_of_block (zzF _ _)) (by simp [zca,Value.oneCell']) (by decide) (by unfold maxLen;omega) (by omega) (zzY (HN.out▸hbw.size) HB3.out.size) _ rfl ?_;intro g2 cap w4 ho4 hg4 hat4 hlt4))
    have hacc:AccS w4 (SepT w4 (g+1)) 116 9 N (.slice (some ⟨g2,0,none⟩) ((l.take k).length+1) cap) (l.take k++ [t]):=by
     refine AccS.app (w0:=wr) (R:=SepT _ (g+1)) (lo:=Wb.heap.size) (hi:=w2.heap.size) (v:=.slice ao' k c0) (by rw [HLK.out];exact HO3.out) (by rw [HLK.out];exact HV.out) (fun j hj=>?_) HBA.out.size HB2.out.size (by simp) (HN.out▸hbw.size) (fun q hq=>(HO.out.lt q hq).2) rfl ⟨⟨so',c',rfl,?_⟩,HOK.out⟩ hg4 hat4 (by rw [HLK.out];exact ho4) (fun a e cs x hn he hx=>hx.kept (fun q q1 q2=>hg4.block q (zzW q2 he) fun e2=>by have:=hn q e2.symm;omega) (zzL _) (zzL _))
     ·obtain⟨cs,k1,k2,k3⟩:=HX.out j hj
      exact⟨cs,k1,k2,k3.below HB3.out (by have:=(HV.out j (by rw [HLK.out]at hj;exact hj)).2.2.1;exact this)⟩
     ·exact HSL.out.kept (fun q _ q2=>Below.heap_alloc _ _ _ q2) (zzL _) (zzL _) fun a e cs x _ he hx=>hx.kept (fun q _ q2=>Below.heap_alloc _ _ _ (zzW q2 he)) (zzL _) (zzL _)
    rw [HLK.out,<-HTK.out]at hacc;have hb4:Below N w w4:=(HW.out.trans (HB3.out.mono (HN.out▸hbw.size))).grown hg4 (zzY (HN.out▸hbw.size) HB3.out.size) (fun q hq=>(HO.out.lt q hq).1);have HAC:=zzH hacc;have HB4:=zzH hb4;clear hacc hb4 ho4 hg4 hat4 hlt4 x0 x1 x2 x3 x4 x5 x6 x7 x8 hbx;exact zz2
  ·have hkl:k=l.length:=by omega
   subst hkl;obtain⟨ao',c',rfl,hsl⟩:=HK.out.sl;rw [List.take_length]at hsl ⊢;have HSL:=zzH hsl;clear hsl;go_wp2;go_ret;rw [HN.out];exact⟨⟨ao',c',rfl,HSL.out⟩,HW.out⟩
theorem zeU: ∀f,zfj f
 |0=>zfF 0 (fun g h=>by cases h)
 |f+1=>zfF (f+1) (fun g h=>by cases h;exact zhz f (zeU f))
theorem zkj (f:Nat):ziA f:=zhz f (zeU f)
def zfx (f:Nat):Prop:= ∀(l:List Tm) (ao:Option Addr) (c:Nat) (w:World),SlAt w 9 (TmAt w f) ao l->zR (l.map (zv f))+l.length<=1000000 ->
 Calls Tryz.prog 45 #[.slice ao l.length c] w
  fun e w'=>(∃ao' c',e= .returned (.slice ao' l.length c')/\SlS w' (SepT w' f) 116 9 w.heap.size w'.heap.size ao' l)/\Below w.heap.size w w'
theorem zfH (f:Nat) (HC: ∀g,f=g+1->zfx g):zfx f:=by
 intro l ao c w hs hcap;refine zzK3 hs HC hcap fun HS HCC HCAP=>?_;have hl:l.length<=1000000:=by omega
 clear hs HC hcap;obtain⟨i0,hi,hz0,hz1,hz2⟩:=info_parts ziK;refine zzK4 hi hz0 hz1 hz2 fun HI HZ HZ1 HZ2=>?_;clear hi hz0 hz1 hz2;have HA:Hid (AccS w (SepT w f) 116 9 w.heap.size (.slice none 0 0) (l.take 0)):=zzH (by rw [List.take_zero];exact AccS.nil _ _ _ _ _);go_in;generalize hN:w.heap.size=N at *;have HN:=zzH hN;clear hN;go_wp2_with fail;go_loopw [3,4] (fun ov iv wr=> ∃(k:Nat),k<=l.length/\iv= .int .i64 k/\Hid (AccS wr (SepT wr f) 116 9 N ov (l.take k))/\Hid (Below N w wr)) (fun _ i _=>l.length-(intOf i).toNat)
 case atStart=>exact⟨0,zzZ _,rfl,HA,zzH (zzR _ _)⟩
 case round=>
  obtain⟨k,hk,rfl,HK,HW⟩:=hrel;rename World=>wr
  rename Value=>ov
  by_cases hlt:k<l.length
  ·cases f with
   |zero=>have:=HS.out.zero;subst this;simp at hlt
   |succ g=>
    have hbw:Below w.heap.size w wr:=by rw [HN.out];exact HW.out
    have hs2:=HS.out.tms hbw;obtain⟨b,off,ai,ci,hao,hb,q0,q1,q2,q3,q4,q5,q6,q7,q8,hit,hok⟩:=hs2.tm hlt;subst hao;have hct:zR (l[k].items.map (zv g))+l[k].items.length<=1000000:=by have h1:=zff (f:=g+1) (zzM hlt);have:=HCAP.out;have h2:300+l[k].items.length+zR (l[k].items.map (zv g))<=zR (l.map (zv (g+1))):=h1;omega
    have htk:l.take (k+1)=l.take k++ [l[k]]:=by rw [List.take_add_one,zzq4 hlt];rfl
    have hlk:(l.take k).length=k:=by rw [List.length_take];omega
    generalize l[k]=t at *;obtain⟨xs,a,e,ho,hv,hx⟩:=HK.out;rw [hlk]at ho hv;obtain⟨ao',c0,hov,-⟩:=HK.out.sl;rw [hlk]at hov;have hba:=(zzR wr.heap.size wr).alloc (zzL _) (.cells #[.int .i64 t.kind,.int .i64 t.int,.int .i64 t.gen,.string t.name,.string t.func,.int .i64 t.arity,.slice ai t.items.length ci,.string t.bytes,.int .i64 t.bits] 116);have hbx:=zzF wr (.cells #[.int .i64 t.kind,.int .i64 t.int,.int .i64 t.gen,.string t.name,.string t.func,.int .i64 t.arity,.slice ai t.items.length ci,.string t.bytes,.int .i64 t.bits] 116);have hbs:(wr.alloc (.cells (zzt t ai ci) 116)).heap.size=wr.heap.size+1:=by simp
    have hcp:=HCC.out g rfl t.items ai ci _ (hit.tms hba) hct;refine zzK11 hcp htk hlk ho hv hx hba hok hbx hbs hb fun HCP HTK HLK HO HV HX HBA HOK HBX HBS HBB=>?_;have Q6:Hid (wr.cell? ⟨b,off+k*9+6,none⟩=some (.slice ai t.items.length ci)):=zzH q6;clear hcp hit hct htk hlk ho hv hx hba hs2 hok HK hbx hbs hb;subst hov;go_upto_region 6 with fail;generalize wr.alloc _=Wb at *;have p6:Wb.cell? ⟨b,off+k*9+6,none⟩=some (.slice ai t.items.length ci):=(HBA.out.cell (p:=⟨b,_,none⟩) HBB.out).trans Q6.out;have C6:Hid (Wb.cell? ⟨wr.heap.size,6,none⟩=some (.slice ai t.items.length ci)):=zzH (zdN HBX.out).2.2.2.2.2.2.1;clear q0 q1 q2 q3 q4 q5 q6 q7 q8;go_upto_region 7 with(go_at_call 45;refine HCP.out.mono ?_;rintro e2 w2 ⟨⟨so',c',rfl,hsl⟩,hb2⟩;have HSL:=zzH hsl;have HB2:=zzH hb2;have g6:w2.cell? ⟨wr.heap.size,6,none⟩=some (.slice ai t.items.length ci):=(hb2.cell (p:=⟨wr.heap.size,6,none⟩) (zb HBX.out)).trans C6.out;have f6:w2.frozen? ⟨wr.heap.size,6,none⟩=false:=zzq2 _ _ 6 _ _ ((hb2.block _ (zb HBX.out)).trans HBX.out);clear hsl hb2);have hr3:=zzS w2 wr.heap.size 6 _ _ (.slice so' t.items.length c') ((HB2.out.block _ (zb HBX.out)).trans HBX.out);have hk3: ∀q,q≠wr.heap.size->(w2.setCell ⟨wr.heap.size,6,none⟩ (.slice so' t.items.length c')).heap[q]?=w2.heap[q]?:=fun q hq=>zzq3 _ _ _ _ hq
    have hs3:(w2.setCell ⟨wr.heap.size,6,none⟩ (.slice so' t.items.length c')).heap.size=w2.heap.size:=by simp [World.setCell]
    have hb3:Below wr.heap.size wr (w2.setCell ⟨wr.heap.size,6,none⟩ (.slice so' t.items.length c')):=(HBA.out.trans (HB2.out.mono HBA.out.size)).setCell (p:=⟨wr.heap.size,6,none⟩) (zzL _) _;generalize w2.setCell ⟨wr.heap.size,6,none⟩ (.slice so' t.items.length c')=w3 at *
    replace hr3:w3.heap[wr.heap.size]?=some (.cells #[.int .i64 t.kind,.int .i64 t.int,.int .i64 t.gen,.string t.name,.string t.func,.int .i64 t.arity,.slice so' t.items.length c',.string t.bytes,.int .i64 t.bits] 116 (0,0)):=hr3
    obtain⟨x0,x1,x2,x3,x4,x5,x6,x7,x8⟩:=zdN hr3;have hb5:Below wr.heap.size wr (w3.alloc (.cells (zzt t so' c') 116)):=hb3.alloc hb3.size _;have ho3:=HO.out.kept (zT hb5 none) (by cases ao'<;>simp [Value.ownBlock]);refine zzK4 hb5 ho3 hk3 hs3 fun HB5 HO3 HK3 HS3=>?_;clear hb3 hb5 ho3 hk3 hs3 hr3 p6 g6 f6;go_upto_region 4 with(at_builtin;refine wpList_append_lies _ rfl (.tmp 23) (.tmp 25) 22 rfl N 116 i0 _ 9 112 Tryz.underlying22 HI.out HZ.out HZ1.out HZ2.out rfl (by decide) _ k xs rfl HO3.out ⟨w3.heap.size,0,none⟩ 1 1 (zca t so' c') rfl rfl (World.news_of_block (zzF _ _)) (by simp [zca,Value.oneCell']) (by decide) (by unfold maxLen;omega) (by omega) (zzY (HN.out▸hbw.size) HB5.out.size) _ rfl ?_;intro g2 cap w4 ho4 hg4 hat4 hlt4)
    have hacc:AccS w4 (SepT w4 (g+1)) 116 9 N (.slice (some ⟨g2,0,none⟩) ((l.take k).length+1) cap) (l.take k++ [t]):=by
     refine AccS.app (w0:=wr) (R:=SepT _ (g+1)) (lo:=Wb.heap.size) (hi:=w2.heap.size) (v:=.slice ao' k c0) (by rw [HLK.out];exact HO3.out) (by rw [HLK.out];exact HV.out) (fun j hj=>?_) HBA.out.size HB2.out.size (by rw [<-HS3.out];simp) (HN.out▸hbw.size) (fun q hq=>(HO.out.lt q hq).2) rfl ⟨⟨so',c',rfl,?_⟩,HOK.out⟩ hg4 hat4 (by rw [HLK.out];exact ho4) (fun a e cs x hn he hx=>hx.kept (fun q q1 q2=>hg4.block q (zzW q2 he) fun e2=>by have:=hn q e2.symm;omega) (zzL _) (zzL _))
     ·obtain⟨cs,k1,k2,k3⟩:=HX.out j hj
      exact⟨cs,k1,k2,k3.below HB5.out (by have:=(HV.out j (by rw [HLK.out]at hj;exact hj)).2.2.1;exact this)⟩
     ·have hfar: ∀q,Wb.heap.size<=q->q<w2.heap.size->(w3.alloc (.cells (zzt t so' c') 116)).heap[q]?=w2.heap[q]?:=fun q q1 q2=>(Below.heap_alloc _ _ _ (by rw [HS3.out];exact q2)).trans (HK3.out q (by have:=HBS.out;omega))
      exact HSL.out.kept hfar (zzL _) (zzL _) fun a e cs x ha he hx=>hx.kept (fun q q1 q2=>hfar q (zzY ha q1) (zzW q2 he)) (zzL _) (zzL _)
    rw [HLK.out,<-HTK.out]at hacc;have hb4:Below N w w4:=(HW.out.trans (HB5.out.mono (HN.out▸hbw.size))).grown hg4 (zzY (HN.out▸hbw.size) HB5.out.size) (fun q hq=>(HO.out.lt q hq).1);have HAC:=zzH hacc;have HB4:=zzH hb4;clear hacc hb4 ho4 hg4 hat4 hlt4 x0 x1 x2 x3 x4 x5 x6 x7 x8;exact zz2
  ·have hkl:k=l.length:=by omega
   subst hkl;obtain⟨ao',c',rfl,hsl⟩:=HK.out.sl;rw [List.take_length]at hsl ⊢;have HSL:=zzH hsl;clear hsl;go_wp2;go_ret;exact⟨⟨ao',c',rfl,HSL.out⟩,HW.out⟩
theorem zeX: ∀f,zfx f
 |0=>zfH 0 (fun g h=>by cases h)
 |f+1=>zfH (f+1) (fun g h=>by cases h;exact zeX f)
structure VCx (w:World) (E U mb:Nat) (at':Int) (u:RUnit) (lo fo go co:Option Addr) (lc fc gc cc mc:Nat):Prop where
 ex:w.heap[E]?=some (.cells #[.pointer (some ⟨U,0,none⟩),.slice (some ⟨mb,0,none⟩) u.code.length mc,.int .i64 at'] 89 (0,0))
 bx:UBox w U u lo fo go co lc fc gc cc
 up:UP w u lo fo go co
theorem VCx.below {w w':World} {E U mb:Nat} {at':Int} {u:RUnit} {lo fo go co:zzA} {lc fc gc cc mc:Nat} (h:VCx w E U mb at' u lo fo go co lc fc gc cc mc) (hb:Below w.heap.size w w'):VCx w' E U mb at' u lo fo go co lc fc gc cc mc:=
 ⟨(hb.block E (zb h.ex)).trans h.ex,h.bx.below hb,h.up.below hb⟩
theorem VCx.e0 {w:World} {E U mb:Nat} {at':Int} {u:RUnit} {lo fo go co:zzA} {lc fc gc cc mc:Nat} (h:VCx w E U mb at' u lo fo go co lc fc gc cc mc):w.cell? ⟨E,0,none⟩=some (.pointer (some ⟨U,0,none⟩)):=by rw [zzq0 _ _ _ _ _ _ h.ex];rfl
theorem VCx.e1 {w:World} {E U mb:Nat} {at':Int} {u:RUnit} {lo fo go co:zzA} {lc fc gc cc mc:Nat} (h:VCx w E U mb at' u lo fo go co lc fc gc cc mc):w.cell? ⟨E,1,none⟩=some (.slice (some ⟨mb,0,none⟩) u.code.length mc):=by rw [zzq0 _ _ _ _ _ _ h.ex];rfl
theorem VCx.e2 {w:World} {E U mb:Nat} {at':Int} {u:RUnit} {lo fo go co:zzA} {lc fc gc cc mc:Nat} (h:VCx w E U mb at' u lo fo go co lc fc gc cc mc):w.cell? ⟨E,2,none⟩=some (.int .i64 at'):=by rw [zzq0 _ _ _ _ _ _ h.ex];rfl
structure ArgOk (u:RUnit) (s:VSt) (a:RArg):Prop where
 x:a.kind=1->0<=a.n/\a.n<=255
 y:a.kind=2->0<=a.n/\a.n<=8191
 l:a.kind≠1->a.kind≠2->0<=a.n/\a.n<u.lits.length
 i:I64 a.n
structure StOk (s:VSt):Prop where
 len:VLen s
 y:0<=s.frame->s.y.length=s.frame.toNat
 fr: -1<=s.frame/\s.frame<=8192
def zcv (u:RUnit):Prop:= ∀t∈u.lits,t.items.length<=1000000
theorem zdy {a b c d:Int} (h:a=b) (h':c=d):Ending.returned (.tuple #[.int .i64 a,.int .i64 c])= .returned (.tuple #[.int .i64 b,.int .i64 d]):=by rw [h,h']
theorem zec (E U mb b:Nat) (at':Int) (u:RUnit) (lo fo go co:zzA) (lc fc gc cc mc:Nat) (s:VSt) (a:RArg) (w:World) (hx:VCx w E U mb at' u lo fo go co lc fc gc cc mc) (hs:StAt w b s) (ho:StOk s) (ha:ArgOk u s a) (hl:zcv u):
  Calls Tryz.prog 132 #[.pointer (some ⟨E,0,none⟩),.pointer (some ⟨b,0,none⟩),.agg #[.int .i64 a.kind,.int .i64 a.n]] w fun e w'=>e= .returned (.tuple #[.int .i64 (zb2 u s a),.int .i64 (zbG s a)])/\Below w.heap.size w w':=by
 obtain⟨ak,an⟩:=a;have hb0:=(zzR w.heap.size w).alloc (zzL _) (.cells #[.int .i64 ak,.int .i64 an] 42);have e0:=zzF w (.cells #[.int .i64 ak,.int .i64 an] 42);have hx1:=hx.below hb0;have hs1:=hs.below hb0;have h1:=ha.x;have h2:=ha.y;have h3:=ha.l;simp only at h1 h2 h3;have hfr:=ho.fr;have hlx:=ho.len.x;have hly:=ho.len.y;have hy:=ho.y;have HT:Hid (zb2 u s ⟨ak,an⟩=if ak=1 then zcZ s.x an else if ak=2 then(if s.frame<=an then 0 else s.y.getD an.toNat 0)else zkP u an):=zzH rfl;have HE:Hid (zbG s ⟨ak,an⟩=if ak=1 then(if zcZ s.x an=0 then 186 else 0)else if ak=2 then(if s.frame<=an then 181 else 0)else 0):=zzH rfl;generalize zb2 u s ⟨ak,an⟩=RT at *;generalize zbG s ⟨ak,an⟩=RE at *;clear hx hs ha ho;go_in;go_upto_region 1 with fail;generalize w.alloc (.cells #[.int .i64 ak,.int .i64 an] 42)=W at *;have HB:=zzH hb0;have b0:=zm e0 (k:=0) (by simp);have b1:=zm e0 (k:=1) (by simp);simp only [zzX2]at b0 b1;have HS:=zzH hs1;have HX:=zzH hx1;clear hb0 e0;by_cases k1:ak=1
 ·subst k1
  obtain⟨g1,g2⟩:=h1 rfl;have hreg:=zdR b s an W hs1 ⟨g1,by omega⟩ (by omega);have HT2:Hid (RT=zcZ s.x an):=zzH (by rw [HT.out,if_pos rfl]);have HE2:Hid (RE=if zcZ s.x an=0 then 186 else 0):=zzH (by rw [HE.out,if_pos rfl]);clear h1 h2 h3 hx1 hs1 HT HE;generalize zcZ s.x an=t at *;have HR:=zzH hreg;clear hreg;by_cases c0:t=0
  ·have t0:(t==0)=true:=zzl.2 c0
   have HE3:Hid (RE=186):=zzH (by rw [HE2.out,if_pos c0]);exact zz80
  ·have t0:(t==0)=false:=zzB.2 c0
   have HE3:Hid (RE=0):=zzH (by rw [HE2.out,if_neg c0]);exact zz80
 ·by_cases k2:ak=2
  ·subst k2
   obtain⟨g1,g2⟩:=h2 rfl;have HT2:Hid (RT=if s.frame<=an then 0 else s.y.getD an.toNat 0):=zzH (by rw [HT.out,if_neg (by decide),if_pos rfl]);have HE2:Hid (RE=if s.frame<=an then 181 else 0):=zzH (by rw [HE.out,if_neg (by decide),if_pos rfl]);obtain⟨xo,xc,yo,yc,to',tc,c0,c1,c2,c3,c4,c5,c6,hL⟩:=hs1.cells;clear h1 h2 h3 hx1 hs1 HT HE c1 c3 c4 c5 c6 k1;by_cases d0:s.frame<=an
   ·have t0:decide (s.frame<=an)=true:=zzT d0
    have HT3:Hid (RT=0):=zzH (by rw [HT2.out,if_pos d0]);have HE3:Hid (RE=181):=zzH (by rw [HE2.out,if_pos d0]);clear HT2 HE2 d0 hy hL c2 hlx hly;go_wp2_with fail;go_quiet (fail);go_wp2;go_ret2;exact⟨zdy HT3.out.symm HE3.out.symm,zg HB.out _⟩
   ·have t0:decide (s.frame<=an)=false:=zzD d0
    have HT3:Hid (RT=s.y.getD an.toNat 0):=zzH (by rw [HT2.out,if_neg d0]);have HE3:Hid (RE=0):=zzH (by rw [HE2.out,if_neg d0]);obtain⟨n,rfl⟩:=zzJ g1;have hyl:=hy (by omega);have hn:n<s.y.length:=by omega
    obtain⟨yb,yf,rfl,hyb,z⟩:=hL.y.cell hn;have HT4:Hid (RT=s.y.getD n 0):=HT3;clear HT2 HE2 d0 hL HT3;generalize s.y.getD n 0=v at *;have hI0:(0:Int)<=(n:Int):=by omega
    have hI1:(n:Int)<(s.y.length:Int):=by omega
    go_wp2_with fail;go_quiet (fail);go_wp2_with fail;go_quiet (fail);go_wp2;go_ret2;exact⟨zdy HT4.out.symm HE3.out.symm,zg (zg HB.out _) _⟩
  ·obtain⟨g1,g2⟩:=h3 k1 k2
   obtain⟨n,rfl⟩:=zzJ g1;have hn:n<u.lits.length:=by omega
   have HT2:Hid (RT=if u.lits[n].kind=9 then 2 else if u.lits[n].kind=7 then 3+(u.lits[n].items.length:Int)else 1):=zzH (by
    rw [HT.out,if_neg k1,if_neg k2];unfold zkP;rw [zzq13,zzq4 hn])
   have HE2:Hid (RE=0):=zzH (by rw [HE.out,if_neg k1,if_neg k2]);have t1:(ak==1)=false:=zzB.2 k1;have t2:(ak==2)=false:=zzB.2 k2;have hit:=hl _ (zzM hn);obtain⟨f,hf⟩:=zdX hx1.up.lits;obtain⟨lb,loff,li,lic,rfl,hlb,q0,q1,q2,q3,q4,q5,q6,q7,q8,-,-⟩:=(hf.imp fun _ _ h=>h.succ).tm hn;have x0:=hx1.e0;have x2:=hx1.bx.c2;clear h1 h2 h3 hx1 hs1 HT HE k1 k2 q1 q2 q3 q4 q5 q7 q8 hf HS hy hlx hly hfr;generalize u.lits[n]=t at *;have hI0:(0:Int)<=(n:Int):=by omega
   have hI1:(n:Int)<(u.lits.length:Int):=by omega
   by_cases d9:t.kind=9
   ·have t9:(t.kind==9)=true:=zzl.2 d9
    have HT3:Hid (RT=2):=zzH (by rw [HT2.out,if_pos d9]);clear HT2 d9;go_wp2_with fail;go_quiet (fail);go_wp2;go_ret2;exact⟨zdy HT3.out.symm HE2.out.symm,zg HB.out _⟩
   ·have t9:(t.kind==9)=false:=zzB.2 d9
    by_cases d7:t.kind=7
    ·have t7:(t.kind==7)=true:=zzl.2 d7
     have HT3:Hid (RT=3+(t.items.length:Int)):=zzH (by rw [HT2.out,if_neg d9,if_pos d7]);have hw:IntKind.i64.wrap (3+(t.items.length:Int))=3+(t.items.length:Int):=by rw [zzq5];omega
     exact zz81
    ·have t7:(t.kind==7)=false:=zzB.2 d7
     have HT3:Hid (RT=1):=zzH (by rw [HT2.out,if_neg d9,if_neg d7]);exact zz81
theorem zfr (E U mb b o:Nat) (at':Int) (u:RUnit) (lo fo go co:zzA) (lc fc gc cc mc:Nat) (x:RIns) (so co' go':zzA) (sc cc' gc':Nat) (w:World) (hx:VCx w E U mb at' u lo fo go co lc fc gc cc mc) (hi:IBox w b o x so co' go' sc cc' gc')
  (hn:x.op=16\/x.op=17->0<=x.n/\x.n<u.funcs.length):
  Calls Tryz.prog 133 #[.pointer (some ⟨E,0,none⟩),.pointer (some ⟨b,o,none⟩)] w fun e w'=>e= .returned (.int .i64 (zbz u x))/\ ∃q,w'=w.drewN q:=by
 have i0:=hi.c0;have i5:=hi.c5;have HR:Hid (zbz u x=if x.op=15\/x.op=18\/x.op=19\/x.op=20\/x.op=21 then x.n else if x.op=16\/x.op=17 then((u.funcs[x.n.toNat]?).map RFunc.arity).getD 0 else if x.op=26 then 1 else 0):=zzH rfl
 generalize zbz u x=R at *;clear hi;generalize x.op=op at *;generalize x.n=n at *;by_cases h1:op=15\/op=18\/op=19\/op=20\/op=21
 ·have HR2:Hid (R=n):=zzH (by rw [HR.out,if_pos h1])
  clear HR hx hn;rcases h1 with rfl|rfl|rfl|rfl|rfl
  all_goals
   go_in;go_wp2;go_ret;exact⟨zO HR2.out.symm,0,rfl⟩
 ·have t1:(op==15)=false:=by rw [zzq1];omega
  have t2:(op==18)=false:=by rw [zzq1];omega
  have t3:(op==19)=false:=by rw [zzq1];omega
  have t4:(op==20)=false:=by rw [zzq1];omega
  have t5:(op==21)=false:=by rw [zzq1];omega
  by_cases h2:op=16\/op=17
  ·obtain⟨g1,g2⟩:=hn h2
   obtain⟨n,rfl⟩:=zzJ g1;have hnl:n<u.funcs.length:=by omega
   have HR2:Hid (R=(u.funcs[n]).arity):=zzH (by rw [HR.out,if_neg h1,if_pos h2,zzq13,zzq4 hnl];rfl);obtain⟨fb,off,rfl,hfb,q0,q1,q2,q3,s1,s2,s3⟩:=hx.up.funcs.func hnl;have x0:=hx.e0;have x3:=hx.bx.c3;clear HR hx hn h1 q0 q2 q3 s1 s2 s3;generalize u.funcs[n]=fn at *;have hI0:(0:Int)<=(n:Int):=by omega
   have hI1:(n:Int)<(u.funcs.length:Int):=by omega
   rcases h2 with rfl|rfl
   all_goals
    go_in;go_wp2_with fail;go_quiet (fail);go_wp2;go_ret;exact⟨zO HR2.out.symm,_,rfl⟩
  ·have t6:(op==16)=false:=by rw [zzq1];omega
   have t7:(op==17)=false:=by rw [zzq1];omega
   by_cases h3:op=26
   ·have t8:(op==26)=true:=zzl.2 h3
    have HR2:Hid (R=1):=zzH (by rw [HR.out,if_neg h1,if_neg h2,if_pos h3]);clear HR hx hn h1 h2 h3;go_in;go_wp2;go_ret;exact⟨zO HR2.out.symm,0,rfl⟩
   ·have t8:(op==26)=false:=zzB.2 h3
    have HR2:Hid (R=0):=zzH (by rw [HR.out,if_neg h1,if_neg h2,if_neg h3]);clear HR hx hn h1 h2 h3;go_in;go_wp2;go_ret;exact⟨zO HR2.out.symm,0,rfl⟩
theorem zgm {p:Prop} [Decidable p] {e:Int} (h:p):(if(true:Bool)=true then e else 0)=if p then e else 0:=by rw [if_pos h];rfl
theorem zgi {p:Prop} [Decidable p] {e:Int} (h: ¬p):(if(false:Bool)=true then e else 0)=if p then e else 0:=by rw [if_neg h];rfl
theorem zhU (E U mb p b o:Nat) (at':Int) (u:RUnit) (lo fo go co:zzA) (lc fc gc cc mc:Nat) (x:RIns) (s:VSt) (so co' go':zzA) (sc cc' gc':Nat) (w:World) (hx:VCx w E U mb at' u lo fo go co lc fc gc cc mc) (hi:IBox w b o x so co' go' sc cc' gc') (hs:StAt w p s) (ho:StOk s) (hl:zcv u)
  (hn:x.op=5->0<=x.n/\x.n<=254) (hsrc:x.op=5\/x.op=6\/x.op=7->0<x.src.length/\ArgOk u s (zQ x)):
  Calls Tryz.prog 90 #[.pointer (some ⟨E,0,none⟩),.pointer (some ⟨p,0,none⟩),.pointer (some ⟨b,o,none⟩)] w fun e w'=>e= .returned (.int .i64 (zej u s x))/\Below w.heap.size w w':=by
 have i0:=hi.c0;have i3:=hi.c3;have i5:=hi.c5;refine zzK3 hi hx hs fun HI HX HS=>?_;have HR:Hid (zej u s x=if x.op=5 then(if zb2 u s (zQ x)<3+x.n+1 then 180 else 0)else if x.op=6\/x.op=7 then(if zb2 u s (zQ x)≠2 then 180 else 0)else 0):=zzH rfl;generalize zej u s x=R at *;clear hx hs;by_cases h5:x.op=5\/x.op=6\/x.op=7
 ·obtain⟨hl0,hao⟩:=hsrc h5
  obtain⟨sb,off,rfl,hsb,q0,q1,-,-⟩:=hi.src.arg hl0
  have hsrc0:zQ x=x.src[0]:=by
   exact zz84
  have hkind:=fun(wx:World) (hb:Below w.heap.size w wx)=>zec E U mb p at' u lo fo go co lc fc gc cc mc s (zQ x) wx (HX.out.below hb) (HS.out.below hb) ho hao hl
  rw [<-hsrc0]at q0 q1;simp only [Nat.zero_mul,Nat.add_zero]at q0 q1;have HK:=zzH hkind;have hn5:=hn;clear hkind hi hn hsrc hao hsrc0;generalize zb2 u s (zQ x)=kt at *;generalize zQ x=a at *;have hI1:(0:Int)<(x.src.length:Int):=by omega
  generalize x.src.length=sl at *;generalize hop:x.op=op at *;clear hop;by_cases c5:op=5
  ·subst c5
   obtain⟨g1,g2⟩:=hn5 rfl;have HR2:Hid (R=if kt<3+x.n+1 then 180 else 0):=zzH (by rw [HR.out,if_pos rfl]);have hw1:IntKind.i64.wrap (3+x.n)=3+x.n:=by rw [zzq5];omega
   have hw2:IntKind.i64.wrap (3+x.n+1)=3+x.n+1:=by rw [zzq5];omega
   clear HR h5 hn5;by_cases d:kt<3+x.n+1
   ·have t0:decide (kt<3+x.n+1)=true:=zzT d
    have HR3:=zzH ((zgm (e:=180) d).trans HR2.out.symm);exact zz83
   ·have t0:decide (kt<3+x.n+1)=false:=zzD d
    have HR3:=zzH ((zgi (e:=180) d).trans HR2.out.symm);exact zz83
  ·have c67:op=6\/op=7:=by omega
   have HR2:Hid (R=if kt≠2 then 180 else 0):=zzH (by rw [HR.out,if_neg c5,if_pos c67]);clear HR h5 hn5 c5 i5;by_cases d:kt≠2
   ·have t0 : (kt != 2) = true := by simpa using d
    have HR3:=zzH ((zgm (e:=180) d).trans HR2.out.symm);exact zz82
   ·have t0 : (kt != 2) = false := by simpa using d
    have HR3:=zzH ((zgi (e:=180) d).trans HR2.out.symm);exact zz82
 ·have HR2:Hid (R=0):=zzH (by rw [HR.out,if_neg (by omega),if_neg (by omega)])
  have t1:(x.op==5)=false:=by rw [zzq1];omega
  have t2:(x.op==6)=false:=by rw [zzq1];omega
  have t3:(x.op==7)=false:=by rw [zzq1];omega
  clear h5 HR hsrc hn hi;generalize x.op=op at *;exact zz85
theorem ziu {op:Int} (h:zga op=true):op=1\/op=5\/op=6\/op=7\/op=8\/op=9\/op=10\/op=11\/op=12\/op=13\/op=30\/op=31\/op=32\/op=33\/op=34:=by
 have:=zza h
 simpa using this
theorem zgp (E p b o:Nat) (x:RIns) (s:VSt) (so co' go':zzA) (sc cc' gc':Nat) (w:World) (hi:IBox w b o x so co' go' sc cc' gc') (hs:StAt w p s):
  Calls Tryz.prog 91 #[.pointer (some ⟨E,0,none⟩),.pointer (some ⟨p,0,none⟩),.pointer (some ⟨b,o,none⟩)] w fun e w'=>e= .returned (.int .i64 (zdf s x))/\w'=w:=by
 have i0:=hi.c0;obtain⟨xo,xc,yo,yc,to',tc,c0,c1,c2,c3,c4,c5,c6,hL⟩:=hs.cells;have HR:Hid (zdf s x=if x.op=37\/x.op=40 then(if s.recv≠1 then 184 else 0)else if x.op=38\/x.op=39 then(if s.recv≠2 then 184 else 0)else if zga x.op=true then 0 else if s.recv≠0 then 184 else 0):=zzH rfl;generalize zdf s x=R at *;clear hi hs hL c0 c1 c2 c3 c4 c6;generalize s.recv=rc at *;generalize x.op=op at *;by_cases h1:op=37\/op=40
 ·have HR2:Hid (R=if rc≠1 then 184 else 0):=zzH (by rw [HR.out,if_pos h1])
  clear HR;by_cases d:rc≠1
  ·have t0 : (rc != 1) = true := by simpa using d
   have HR3:=zzH ((zgm (e:=184) d).trans HR2.out.symm);exact zz86
  ·have t0 : (rc != 1) = false := by simpa using d
   have HR3:=zzH ((zgi (e:=184) d).trans HR2.out.symm);exact zz86
 ·have s1:(op==37)=false:=by rw [zzq1];omega
  have s2:(op==40)=false:=by rw [zzq1];omega
  by_cases h2:op=38\/op=39
  ·have HR2:Hid (R=if rc≠2 then 184 else 0):=zzH (by rw [HR.out,if_neg h1,if_pos h2])
   clear HR h1;by_cases d:rc≠2
   ·have t0 : (rc != 2) = true := by simpa using d
    have HR3:=zzH ((zgm (e:=184) d).trans HR2.out.symm);exact zz87
   ·have t0 : (rc != 2) = false := by simpa using d
    have HR3:=zzH ((zgi (e:=184) d).trans HR2.out.symm);exact zz87
  ·have s3:(op==38)=false:=by rw [zzq1];omega
   have s4:(op==39)=false:=by rw [zzq1];omega
   by_cases h3:zga op=true
   ·have HR2:Hid (R=0):=zzH (by rw [HR.out,if_neg h1,if_neg h2,if_pos h3])
    clear HR h1 h2 c5;rcases ziu h3 with rfl|rfl|rfl|rfl|rfl|rfl|rfl|rfl|rfl|rfl|rfl|rfl|rfl|rfl|rfl
    all_goals
     go_in;go_wp2;go_ret;exact⟨zO HR2.out.symm,rfl⟩
   ·have HR2:Hid (R=if rc≠0 then 184 else 0):=zzH (by rw [HR.out,if_neg h1,if_neg h2,if_neg h3])
    have ho: ¬(op=1\/op=5\/op=6\/op=7\/op=8\/op=9\/op=10\/op=11\/op=12\/op=13\/op=30\/op=31\/op=32\/op=33\/op=34):=fun g=>h3 (zzT (by simpa using g))
    have u0:(op==1)=false:=by rw [zzq1];omega
    have u1:(op==5)=false:=by rw [zzq1];omega
    have u2:(op==6)=false:=by rw [zzq1];omega
    have u3:(op==7)=false:=by rw [zzq1];omega
    have u4:(op==8)=false:=by rw [zzq1];omega
    have u5:(op==9)=false:=by rw [zzq1];omega
    have u6:(op==10)=false:=by rw [zzq1];omega
    have u7:(op==11)=false:=by rw [zzq1];omega
    have u8:(op==12)=false:=by rw [zzq1];omega
    have u9:(op==13)=false:=by rw [zzq1];omega
    have u10:(op==30)=false:=by rw [zzq1];omega
    have u11:(op==31)=false:=by rw [zzq1];omega
    have u12:(op==32)=false:=by rw [zzq1];omega
    have u13:(op==33)=false:=by rw [zzq1];omega
    have u14:(op==34)=false:=by rw [zzq1];omega
    clear HR h1 h2 h3 ho;by_cases d:rc≠0
    ·have t0 : (rc != 0) = true := by simpa using d
     have HR3:=zzH ((zgm (e:=184) d).trans HR2.out.symm);exact zz88
    ·have t0 : (rc != 0) = false := by simpa using d
     have HR3:=zzH ((zgi (e:=184) d).trans HR2.out.symm);exact zz88
theorem zhp (E p b o:Nat) (x:RIns) (s:VSt) (so co' go':zzA) (sc cc' gc':Nat) (w:World) (hi:IBox w b o x so co' go' sc cc' gc') (hs:StAt w p s):
  Calls Tryz.prog 92 #[.pointer (some ⟨E,0,none⟩),.pointer (some ⟨p,0,none⟩),.pointer (some ⟨b,o,none⟩)] w fun e w'=>e= .returned (.int .i64 (zdZ s x))/\w'=w:=by
 have i0:=hi.c0;obtain⟨xo,xc,yo,yc,to',tc,c0,c1,c2,c3,c4,c5,c6,hL⟩:=hs.cells;have HR:Hid (zdZ s x=if s.mt=false/\31<=x.op/\x.op<=34 then 183 else 0):=zzH rfl;generalize zdZ s x=R at *;clear hi hs hL c0 c1 c2 c3 c5 c6;generalize s.mt=mt at *;generalize x.op=op at *
 cases mt with
 |true=>
  have HR2:Hid ((0:Int)=R):=zzH (by rw [HR.out,if_neg (by simp)]);clear HR;exact zz90
 |false=>
  by_cases h1:31<=op
  ·have t1:decide (31<=op)=true:=zzT h1
   by_cases h2:op<=34
   ·have t2:decide (op<=34)=true:=zzT h2
    have HR2:Hid ((183:Int)=R):=zzH (by rw [HR.out,if_pos ⟨rfl,h1,h2⟩]);exact zz89
   ·have t2:decide (op<=34)=false:=zzD h2
    have HR2:Hid ((0:Int)=R):=zzH (by rw [HR.out,if_neg (fun g=>h2 g.2.2)]);exact zz89
  ·have t1:decide (31<=op)=false:=zzD h1
   have HR2:Hid ((0:Int)=R):=zzH (by rw [HR.out,if_neg (fun g=>h1 g.2.1)]);clear HR h1;exact zz90
theorem zhg (E p b o:Nat) (x:RIns) (s:VSt) (so co' go':zzA) (sc cc' gc':Nat) (w:World) (hi:IBox w b o x so co' go' sc cc' gc') (hs:StAt w p s):
  Calls Tryz.prog 94 #[.pointer (some ⟨E,0,none⟩),.pointer (some ⟨p,0,none⟩),.pointer (some ⟨b,o,none⟩)] w fun e w'=>e= .returned (.int .i64 (zd8 s x))/\w'=w:=by
 have i0:=hi.c0;obtain⟨xo,xc,yo,yc,to',tc,c0,c1,c2,c3,c4,c5,c6,hL⟩:=hs.cells;have HR:Hid (zd8 s x=if 0<=s.frame/\(x.op=24\/zbY x.op=true)\/s.frame<0/\x.op=25 then 181 else 0):=zzH rfl;have hlv:=fun wx=>zds x.op wx
 generalize zd8 s x=R at *;clear hi hs hL c1 c2 c3 c4 c5 c6;generalize s.frame=fr at *;generalize zbY x.op=lv at *;generalize x.op=op at *;have HLV:=zzH hlv;clear hlv;by_cases h1:0<=fr
 ·have t1:decide (0<=fr)=true:=zzT h1
  by_cases h2:op=24
  ·have t2:(op==24)=true:=zzl.2 h2
   have HR2:Hid ((181:Int)=R):=zzH (by rw [HR.out,if_pos (.inl ⟨h1,.inl h2⟩)]);exact zz91
  ·have t2:(op==24)=false:=zzB.2 h2
   cases lv with
   |true=>
    have HR2:Hid ((181:Int)=R):=zzH (by rw [HR.out,if_pos (.inl ⟨h1,.inr rfl⟩)]);exact zz91
   |false=>
    have HR2:Hid ((0:Int)=R):=zzH (by rw [HR.out,if_neg (by rintro(⟨-,g|g⟩|⟨g,-⟩);exact h2 g;cases g;omega)]);exact zz91
 ·have t1:decide (0<=fr)=false:=zzD h1
  by_cases h2:op=25
  ·have t2:(op==25)=true:=zzl.2 h2
   have HR2:Hid ((181:Int)=R):=zzH (by rw [HR.out,if_pos (.inr ⟨by omega,h2⟩)]);exact zz91
  ·have t2:(op==25)=false:=zzB.2 h2
   have HR2:Hid ((0:Int)=R):=zzH (by rw [HR.out,if_neg (by rintro(⟨g,-⟩|⟨-,g⟩);exact h1 g;exact h2 g)]);exact zz91
theorem zhh (E U mb p b o i:Nat) (u:RUnit) (lo fo go co:zzA) (lc fc gc cc mc:Nat) (x:RIns) (s:VSt) (so co' go':zzA) (sc cc' gc':Nat) (w:World) (hx:VCx w E U mb i u lo fo go co lc fc gc cc mc) (hi:IBox w b o x so co' go' sc cc' gc') (hs:StAt w p s) (ls:VLen s):
  Calls Tryz.prog 96 #[.pointer (some ⟨E,0,none⟩),.pointer (some ⟨p,0,none⟩),.pointer (some ⟨b,o,none⟩)] w fun e w'=>e= .returned (.int .i64 (zcT i s x))/\ ∃q,w'=w.drewN q:=by
 have i0:=hi.c0;have x2:=hx.e2;have lt:=ls.t;obtain⟨xo,xc,yo,yc,to',tc,c0,c1,c2,c3,c4,c5,c6,hL⟩:=hs.cells;have HR:Hid (zcT i s x=if s.tries.length=0 then(if x.op=29 then 182 else 0)else if zbY x.op=true\/zbI x.op=true/\zct s.tries<=i then 182 else 0):=zzH rfl;have hlv:=fun wx=>zds x.op wx
 have hrs: ∀wx,Calls Tryz.prog 97 #[.int .i64 x.op] wx fun e w'=>e= .returned (.bool (zbI x.op))/\w'=wx:=fun wx=>(zfc x.op wx).mono fun _ _ ⟨a,b⟩=>⟨a,b.symm⟩
 generalize zcT i s x=R at *;clear hi hs hx c0 c1 c2 c4 c5 c6;generalize zbY x.op=lv at *;generalize zbI x.op=rs at *;generalize x.op=op at *;have HLV:=zzH hlv;have HRS:=zzH hrs;clear hlv hrs;by_cases h0:s.tries.length=0
 ·have t0:((s.tries.length:Int)==0)=true:=by rw [beq_iff_eq];omega
  by_cases h1:op=29
  ·have t1:(op==29)=true:=zzl.2 h1
   have HR2:Hid ((182:Int)=R):=zzH (by rw [HR.out,if_pos h0,if_pos h1]);exact zz94
  ·have t1:(op==29)=false:=zzB.2 h1
   have HR2:Hid ((0:Int)=R):=zzH (by rw [HR.out,if_pos h0,if_neg h1]);exact zz94
 ·have t0:((s.tries.length:Int)==0)=false:=by rw [zzq1];omega
  obtain⟨n,hn⟩: ∃n,s.tries.length=n+1:=⟨s.tries.length-1,by omega⟩;obtain⟨tb,tf,rfl,htb,z⟩:=hL.t.cell (k:=n) (by omega);have hlast:zct s.tries=s.tries.getD n 0:=by unfold zct;rw [hn];rfl
  have HR1:Hid (R=if lv=true\/rs=true/\zct s.tries<=i then 182 else 0):=zzH (by rw [HR.out,if_neg h0]);rw [hlast]at HR1;generalize s.tries.getD n 0=l at *;have hw:IntKind.i64.wrap (((n+1:Nat):Int)-1)=(n:Int):=by rw [zzq5];omega
  rw [hn]at c3 t0 lt;clear HR h0 hL hn hlast;have hI0:(0:Int)<=(n:Int):=by omega
  have hI1:(n:Int)<((n+1:Nat):Int):=by omega
  cases lv with
  |true=>
   have HR2:Hid ((182:Int)=R):=zzH (by rw [HR1.out,if_pos (.inl rfl)]);exact zz93
  |false=>
   cases rs with
   |false=>
    have HR2:Hid ((0:Int)=R):=zzH (by rw [HR1.out,if_neg (by simp)]);exact zz93
   |true=>
    by_cases h2:l<=(i:Int)
    ·have t2:decide (l<=(i:Int))=true:=zzT h2
     have HR2:Hid ((182:Int)=R):=zzH (by rw [HR1.out,if_pos (.inr ⟨rfl,h2⟩)]);exact zz92
    ·have t2:decide (l<=(i:Int))=false:=zzD h2
     have HR2:Hid ((0:Int)=R):=zzH (by rw [HR1.out,if_neg (by rintro(g|g);cases g;exact h2 g.2)]);exact zz92
theorem zi6 (E U mb p k:Nat) (at':Int) (u:RUnit) (lo fo go co:zzA) (lc fc gc cc mc:Nat) (s:VSt) (M:Nat->Option VM) (cs:Array Value) (g:Nat->Nat) (w:World) (hx:VCx w E U mb at' u lo fo go co lc fc gc cc mc) (hm:MeetAt w mb u.code.length M cs g) (hs:StAt w p s) (ls:VLen s) (hk:k<u.code.length) (hv: ∀m,M k=some m->VLen m.st):
  Calls Tryz.prog 102 #[.pointer (some ⟨E,0,none⟩),.pointer (some ⟨p,0,none⟩),.int .i64 k] w fun e w'=>e= .returned (.int .i64 (if zb9 (stM M k) s=true then 184 else 0))/\ ∃n,w'=w.drewN n:=by
 obtain⟨pv,av,wv,f0,f1,f2,h1⟩:=hm.one k hk;have e1:=hx.e1;have q0:w.cell? ⟨mb,k*3,none⟩=some pv:=by rw [zzq0 _ _ _ _ _ _ hm.row];exact f0
 obtain⟨xo,xc,yo,yc,to',tc,c0,c1,c2,c3,c4,c5,c6,hL⟩:=hs.cells;have hT:=zzH hL.t;have l1:=ls.t;have hkz:(0:Int)<=(k:Int):=by omega
 have hkl:(k:Int)<(u.code.length:Int):=by omega
 have hmk:M k=M k:=rfl;revert hmk;generalize hMk:M k=mo at h1;intro _;have hv':=fun m h=>hv m (hMk.trans h)
 have hR:zb9 (stM M k) s=zb9 (mo.map VM.st) s:=by unfold stM;rw [hMk]
 rw [hR];obtain⟨V,hV⟩: ∃V:Int,V=(if zb9 (mo.map VM.st) s=true then 184 else 0):=⟨_,rfl⟩;rw [<-hV];have HV:=zzH hV;clear hV;clear c1 c2 c4 c5 hm hx hs ls f0 f1 f2 hL hv hMk hR
 cases mo with
 |none=>
  obtain⟨rfl,-,-⟩:=h1;have HR:Hid (V=184):=zzH (by rw [HV.out];rfl);clear HV;clear c0 c3 c6;exact zz95
 |some m=>
  obtain⟨⟨b,rfl,hb⟩,-,-⟩:=h1;obtain⟨xo2,xc2,yo2,yc2,to2,tc2,d0,d1,d2,d3,d4,d5,d6,hL2⟩:=hb.cells;have hT2:=zzH hL2.t;have l2:=(hv' m rfl).t;have E:Hid (V=if m.st.frame≠s.frame\/m.st.frm≠s.frm\/m.st.tries≠s.tries then 184 else 0):=zzH (by rw [HV.out];unfold zb9;simp);unfold zce at q0;clear d1 d2 d4 d5 hL2 hb hv';clear HV;generalize s.frame=a1 at *;generalize m.st.frame=a2 at *;generalize s.frm=g1 at *;generalize m.st.frm=g2 at *;generalize s.tries=t1 at *;generalize m.st.tries=t2 at *;by_cases h1:a2=a1
  ·have b1:=zgZ h1
   by_cases h2:g2=g1
   ·have b2:=zgZ h2
    have hE: ∀wx:World,wx.heap=w.heap->Calls Tryz.prog 129 #[.slice to2 t2.length tc2,.slice to' t1.length tc] wx fun e w'=>e= .returned (.bool (decide (t2=t1)))/\ ∃q,w'=wx.drewN q:=fun wx hx=>zfD t2 t1 to2 to' tc2 tc wx (hT2.out.heap hx) (hT.out.heap hx) l2 l1
    have HR:Hid (V=if(!decide (t2=t1))=true then 184 else 0):=zzH (by rw [E.out];simp [h1,h2]);generalize decide (t2=t1)=bb at *;have HE:=zzH hE;clear hE h1 h2 E
    cases bb
    all_goals
     go_in;go_wp2_with fail;go_quiet ((first|(exact zze (zbp _ _ _))|(refine Calls.quiet_of (HE.out _ ?_);rfl)));go_wp2_with fail
     all_goals
      go_ret;exact⟨zO HR.out.symm,by first|exact⟨_,rfl⟩|(simp only [World.drewN_drewN];exact⟨_,rfl⟩)⟩
   ·have b2:=zgD h2
    have HR:Hid (V=184):=zzH (by rw [E.out];simp [h2]);clear h1 h2 E;exact zz95
  ·have b1:=zgD h1
   have HR:Hid (V=184):=zzH (by rw [E.out];simp [h1]);clear h1 E;exact zz95
structure EffOk (u:RUnit) (s:VSt) (x:RIns):Prop where
 src1:x.op=1->0<x.src.length/\ArgOk u s (zQ x)
 srcp:x.op=9\/x.op=10->0<x.src.length/\((zQ x).kind=1->0<=(zQ x).n/\(zQ x).n<=255)/\((zQ x).kind=2->0<=(zQ x).n/\(zQ x).n<s.y.length)
 srcl:x.src.length<=1000
 dstx:x.dst.kind=1->0<=x.dst.n/\x.dst.n<=255
 dsty:x.dst.kind=2->0<=x.dst.n/\x.dst.n<s.y.length
 live:0<=x.live/\x.live<=256
 tup:x.op=9->0<=x.n/\x.n<=255
 frm:x.op=24->1<=x.n/\x.n<=8192
 tri:x.op=29->s.tries≠ []
section
variable {u:RUnit} {s:VSt}
theorem zc3 {a:RArg} {l:List RArg} (h:zbG s a≠0):zV s (a::l)=zbG s a:=by rw [zV,if_pos h]
theorem zcO {a:RArg} {l:List RArg} (h:zbG s a=0):zV s (a::l)=zV s l:=by rw [zV,if_neg (by simp [h])]
theorem zlo {l r:List RArg} {k:Nat} (hk:k<l.length) (h:zbG s l[k]≠0):zV s (l.drop k++r)=zbG s l[k]:=by
 rw [zcx hk,List.cons_append,zc3 h]
theorem zkI {l r:List RArg} {k:Nat} (hk:k<l.length) (h:zbG s l[k]=0):zV s (l.drop k++r)=zV s (l.drop (k+1)++r):=by
 rw [zcx hk,List.cons_append,zcO h]
theorem zkc {l:List RSeg} {k:Nat} (hk:k<l.length):zbo (l.drop k)=l[k].val::(if l[k].size.kind=0/\l[k].size.n=0 then zbo (l.drop (k+1))else l[k].size::zbo (l.drop (k+1))):=by
 rw [zcx hk];rfl
theorem zjk (n:Nat) {k:Nat} (hk:k<n):(zbD n).drop k=⟨1,(k:Int)⟩::(zbD n).drop (k+1):=by
 rw [zcx (by unfold zbD;simpa using hk)];unfold zbD;simp
end
structure OpdOk (u:RUnit) (s:VSt) (x:RIns):Prop where
 src: ∀a∈x.src,ArgOk u s a
 val: ∀g∈x.segs,ArgOk u s g.val
 size: ∀g∈x.segs,¬(g.size.kind=0/\g.size.n=0)->ArgOk u s g.size
 args:x.op=16\/x.op=17->0<=x.n/\x.n<u.funcs.length
 num:0<=zbz u x/\zbz u x<=1000
 srcLen:x.src.length<=1000
 segsLen:x.segs.length<=1000
theorem zf6 (E U mb p b o:Nat) (at':Int) (u:RUnit) (lo fo go co:zzA) (lc fc gc cc mc:Nat) (x:RIns) (s:VSt) (so co' go':zzA) (sc cc' gc':Nat) (w:World) (hx:VCx w E U mb at' u lo fo go co lc fc gc cc mc) (hi:IBox w b o x so co' go' sc cc' gc') (hs:StAt w p s) (ho:StOk s) (hl:zcv u) (ha:OpdOk u s x):
  Calls Tryz.prog 89 #[.pointer (some ⟨E,0,none⟩),.pointer (some ⟨p,0,none⟩),.pointer (some ⟨b,o,none⟩)] w fun e w'=>e= .returned (.int .i64 (zcj u s x))/\Below w.heap.size w w':=by
 refine zzK4 hi hx hs ha fun HI HX HS HA=>?_;have hsl:=ha.srcLen;have hgl:=ha.segsLen;have HR:Hid (zcj u s x=if zV s (x.src++(zbo x.segs++zbD (zbz u x).toNat))≠0 then zV s (x.src++(zbo x.segs++zbD (zbz u x).toNat))else if x.dst.kind=2/\s.frame<=x.dst.n then 181 else 0):=zzH rfl;generalize zcj u s x=R at *;have hkind:=fun(a:RArg) (h:ArgOk u s a) (wx:World) (hb:Below w.heap.size w wx)=>zec E U mb p at' u lo fo go co lc fc gc cc mc s a wx (HX.out.below hb) (HS.out.below hb) ho h hl
 have HK:=zzH hkind;have i3:=hi.c3;have i9:=hi.c9;clear hkind hx hi hs ha;obtain⟨F,hF⟩: ∃F,F=zV s (x.src++(zbo x.segs++zbD (zbz u x).toNat)):=⟨_,rfl⟩;rw [<-hF]at HR;have HF:=zzH hF;clear hF;go_in;go_wp2_with fail;go_loopw [23] (fun iv wr=> ∃k:Nat,k<=x.src.length/\iv= .int .i64 k/\Hid (F=zV s (x.src.drop k++(zbo x.segs++zbD (zbz u x).toNat)))/\Hid (Below w.heap.size w wr)) (fun iv _=>x.src.length-(intOf iv).toNat)
 case atStart=>exact⟨0,zzZ _,rfl,zzH (by rw [List.drop_zero];exact HF.out),zzH (zzR _ _)⟩
 case round=>
  obtain⟨k,hk,rfl,HFk,HB⟩:=hrel;rename World=>wr
  by_cases hlt:k<x.src.length
  ·as_aux_lemma=>
   obtain⟨sb,off,hso,hsb,q0,q1,-,-⟩:=(HI.out.below HB.out).src.arg hlt;subst hso;have hao:=HA.out.src _ (zzM hlt);have hbad:=zlo (s:=s) (r:=zbo x.segs++zbD (zbz u x).toNat) hlt;have hgood:=zkI (s:=s) (r:=zbo x.segs++zbD (zbz u x).toNat) hlt;have hcall:=HK.out _ hao;have HBAD:=zzH hbad;have HGOOD:=zzH hgood;clear hbad hgood;generalize x.src[k]=a at *;generalize hke:zbG s a=ke at *;generalize zb2 u s a=kt at *;have HC:=zzH hcall;clear hcall hke;have hI0:(0:Int)<=(k:Int):=by omega
   have hI1:(k:Int)<(x.src.length:Int):=by omega
   have hB2:Below w.heap.size w (wr.alloc (.cells #[.int .i64 a.kind,.int .i64 a.n] 42)):=HB.out.alloc HB.out.size _;have HB2:=zzH hB2;have hrow:=zzF wr (.cells #[.int .i64 a.kind,.int .i64 a.n] 42);clear hB2;by_cases h0:ke=0
   ·have t0 : (ke != 0) = false := by rw [h0]; rfl
    have HF2:Hid (F=zV s (x.src.drop (k+1)++(zbo x.segs++zbD (zbz u x).toNat))):=zzH (by rw [HFk.out];exact HGOOD.out h0);clear h0;go_wp2_with fail;refine(HC.out _ HB2.out).mono ?_;rintro e w1 ⟨rfl,hb1⟩;have HB3:=zzH (HB2.out.trans (hb1.mono HB2.out.size));clear hb1 hrow;go_wp2_with fail;exact⟨⟨k+1,hlt,by go_num,HF2,HB3⟩,by simp [intOf];omega⟩
   ·have t0 : (ke != 0) = true := by simpa using h0
    have HF2:Hid (R=ke):=zzH (by
     have e:=HBAD.out h0;rw [<-HFk.out]at e;rw [HR.out,e,if_pos h0])
    clear h0;go_wp2_with fail;refine(HC.out _ HB2.out).mono ?_;rintro e w1 ⟨rfl,hb1⟩;have HB3:=zzH (HB2.out.trans (hb1.mono HB2.out.size));clear hb1 hrow;go_wp2;go_ret;exact⟨zO HF2.out.symm,HB3.out⟩
  ·obtain rfl:k=x.src.length:=by omega
   have HF1:Hid (F=zV s (zbo x.segs++zbD (zbz u x).toNat)):=zzH (by rw [HFk.out,zzq10 (Nat.le_refl _)];rfl);have j9:=(HI.out.below HB.out).c9;clear HFk HF;go_wp2_with fail;go_loopw [43] (fun iv wx=> ∃k:Nat,k<=x.segs.length/\iv= .int .i64 k/\Hid (F=zV s (zbo (x.segs.drop k)++zbD (zbz u x).toNat))/\Hid (Below w.heap.size w wx)) (fun iv _=>x.segs.length-(intOf iv).toNat)
   case atStart=>exact⟨0,zzZ _,rfl,zzH (by rw [List.drop_zero];exact HF1.out),HB⟩
   case round=>
    obtain⟨k,hk,rfl,HFk,HB⟩:=hrel;rename World=>wx
    by_cases hlt:k<x.segs.length
    ·have hgd:=zkc hlt
     have hmem:=zzM hlt;have hao:=HA.out.val _ hmem;have hbo:=HA.out.size _ hmem;obtain⟨sb,off,hso,hsb,q0,q1,q2,q3,q4,q5,-⟩:=(HI.out.below HB.out).segs.seg hlt;subst hso;generalize x.segs[k]=g at *;have hcv:=HK.out _ hao;have hcs:=HK.out g.size;generalize hkv:zbG s g.val=kv at *;generalize zb2 u s g.val=tv at *;generalize hks:zbG s g.size=ks at *;generalize zb2 u s g.size=ts at *;refine zzK6 hcv hcs hbo hgd hkv hks fun HCV HCS HBO HGD HKV HKS=>?_;clear hcv hcs hbo hgd hkv hks hao hmem;have hI0:(0:Int)<=(k:Int):=by omega
     have hI1:(k:Int)<(x.segs.length:Int):=by omega
     have hB2:Below w.heap.size w (wx.alloc (.cells #[.int .i64 g.type,.int .i64 g.val.kind,.int .i64 g.val.n,.int .i64 g.size.kind,.int .i64 g.size.n,.bool g.little] 113)):=HB.out.alloc HB.out.size _;have hrow:=zzF wx (.cells #[.int .i64 g.type,.int .i64 g.val.kind,.int .i64 g.val.n,.int .i64 g.size.kind,.int .i64 g.size.n,.bool g.little] 113);go_upto_region 11 with fail;generalize wx.alloc (.cells #[.int .i64 g.type,.int .i64 g.val.kind,.int .i64 g.val.n,.int .i64 g.size.kind,.int .i64 g.size.n,.bool g.little] 113)=V at *;generalize wx.heap.size=X at *;have HB2:=zzH hB2;have HROW:=zzH hrow;have y1:V.cell? ⟨X,1,none⟩=some (.int .i64 g.val.kind):=by rw [zzq0 _ _ _ _ _ _ hrow];rfl
     have y2:V.cell? ⟨X,2,none⟩=some (.int .i64 g.val.n):=by rw [zzq0 _ _ _ _ _ _ hrow];rfl
     clear hB2 hrow q0 q1 q2 q3 q4 q5;by_cases h0:kv=0
     ·have t0 : (kv != 0) = false := by rw [h0]; rfl
      have HF2:Hid (F=zV s ((if g.size.kind=0/\g.size.n=0 then zbo (x.segs.drop (k+1))else g.size::zbo (x.segs.drop (k+1)))++zbD (zbz u x).toNat)):=zzH (by
       rw [HFk.out,HGD.out,List.cons_append,zcO (by rw [HKV.out];exact h0)])
      clear h0 HFk HGD;go_wp2_with fail;refine(HCV.out _ HB2.out).mono ?_;rintro e w1 ⟨rfl,hb1⟩;have hr1:=(hb1.block X (zb HROW.out)).trans HROW.out;have HB3:=zzH (HB2.out.trans (hb1.mono HB2.out.size));have y3:w1.cell? ⟨X,3,none⟩=some (.int .i64 g.size.kind):=by rw [zzq0 _ _ _ _ _ _ hr1];rfl
      have y4:w1.cell? ⟨X,4,none⟩=some (.int .i64 g.size.n):=by rw [zzq0 _ _ _ _ _ _ hr1];rfl
      clear hb1 hr1;go_upto_region 14 with fail;by_cases d:g.size.kind=0/\g.size.n=0
      ·have t1:(g.size.kind==0)=true:=zzl.2 d.1
       have t2:(g.size.n==0)=true:=zzl.2 d.2;have HF3:Hid (F=zV s (zbo (x.segs.drop (k+1))++zbD (zbz u x).toNat)):=zzH (by rw [HF2.out,if_pos d]);clear d HF2 HKS HKV HBO HCS HCV;generalize g.size.kind=sk at *;generalize g.size.n=sn at *;go_wp2_with fail;exact⟨⟨k+1,hlt,by go_num,HF3,HB3⟩,by simp [intOf];omega⟩
      ·have HCS2:=zzH (HCS.out (HBO.out d))
       by_cases d1:g.size.kind=0
       ·have t1:(g.size.kind==0)=true:=zzl.2 d1
        have t2:(g.size.n==0)=false:=zzB.2 fun h=>d ⟨d1,h⟩
        exact zz96
       ·have t1:(g.size.kind==0)=false:=zzB.2 d1
        exact zz96
     ·have t0 : (kv != 0) = true := by simpa using h0
      have HF2:Hid (R=kv):=zzH (by
       have e:F=kv:=by rw [HFk.out,HGD.out,List.cons_append,zc3 (by rw [HKV.out];exact h0),HKV.out]
       rw [HR.out,e,if_pos h0])
      clear h0;go_wp2_with fail;refine(HCV.out _ HB2.out).mono ?_;rintro e w1 ⟨rfl,hb1⟩;have HB3:=zzH (HB2.out.trans (hb1.mono HB2.out.size));clear hb1;go_wp2;go_ret;exact⟨zO HF2.out.symm,HB3.out⟩
    ·obtain rfl:k=x.segs.length:=by omega
     obtain⟨N,hN⟩: ∃N:Nat,zbz u x=(N:Int):=zzJ HA.out.num.1;have hN2:N<=1000:=by have:=HA.out.num.2;omega
     have HF2:Hid (F=zV s (zbD N)):=zzH (by rw [HFk.out,zzq10 (Nat.le_refl _),hN];rfl);have harg:=zfr E U mb b o at' u lo fo go co lc fc gc cc mc x so co' _ sc cc' gc' wx (HX.out.below HB.out) (HI.out.below HB.out) HA.out.args;rw [hN]at harg;have HARG:=zzH harg;clear harg hN HFk HF1;go_wp2_with fail;refine HARG.out.mono ?_;rintro e w1 ⟨rfl,nq,rfl⟩;have HB2:Hid (Below w.heap.size w (wx.drewN nq)):=zzH (zg HB.out nq);generalize wx.drewN nq=wy at *;go_wp2_with fail;go_loopw [77] (fun iv wz=> ∃k:Nat,k<=N/\iv= .int .i64 k/\Hid (F=zV s ((zbD N).drop k))/\Hid (Below w.heap.size w wz)) (fun iv _=>N-(intOf iv).toNat)
     case atStart=>exact⟨0,zzZ _,rfl,zzH (by rw [List.drop_zero];exact HF2.out),HB2⟩
     case round=>
      obtain⟨k,hk,rfl,HFk,HB3⟩:=hrel;rename World=>wz
      by_cases hlt:k<N
      ·have hgd:=zjk N hlt
       have hlx:=ho.len.x;have hreg:=zdR p s (k:Int) wz (HS.out.below HB3.out) ⟨by omega,by omega⟩ (by omega);have hke:zbG s ⟨1,(k:Int)⟩=if zcZ s.x (k:Int)=0 then 186 else 0:=by unfold zbG;rw [if_pos rfl]
       refine zzK3 hreg hgd hke fun HREG HGD HKE=>?_;clear hreg hgd hke;generalize zcZ s.x (k:Int)=ty at *;by_cases h0:ty=0
       ·have t0:(ty==0)=true:=zzl.2 h0
        have HR2:Hid (R=186):=zzH (by
         have hk1:zbG s ⟨1,(k:Int)⟩=186:=by rw [HKE.out,if_pos h0]
         have e:F=186:=by rw [HFk.out,HGD.out,zc3 (by rw [hk1];decide),hk1]
         rw [HR.out,e,if_pos (by decide)])
        clear h0;go_wp2_with fail;refine HREG.out.mono ?_;rintro e w1 ⟨rfl,rfl⟩;go_wp2;go_ret;exact⟨zO HR2.out.symm,HB3.out⟩
       ·have t0:(ty==0)=false:=zzB.2 h0
        have HF4:Hid (F=zV s ((zbD N).drop (k+1))):=zzH (by
         rw [HFk.out,HGD.out,zcO (by rw [HKE.out,if_neg h0])])
        clear h0;go_wp2_with fail;refine HREG.out.mono ?_;rintro e w1 ⟨rfl,rfl⟩;go_wp2_with fail;exact⟨⟨k+1,hlt,by go_num,HF4,HB3⟩,by simp [intOf];omega⟩
      ·obtain rfl:k=N:=by omega
       have HF3:Hid (F=0):=zzH (by
        rw [HFk.out,zzq10 (by unfold zbD;simp)];rfl)
       have HRF:Hid (R=if x.dst.kind=2/\s.frame<=x.dst.n then 181 else 0):=zzH (by rw [HR.out,HF3.out,if_neg (by simp)]);have jb:=HI.out.below HB3.out;have j1:=jb.c1;have j2:=jb.c2;obtain⟨xo,xc,yo,yc,to',tc,c0,c1,c2,c3,c4,c5,c6,hL⟩:=(HS.out.below HB3.out).cells;clear jb c1 c2 c3 c4 c5 c6 hL HFk HF2 HR;generalize hdk:x.dst.kind=dk at *;generalize hdn:x.dst.n=dn at *;generalize hfr:s.frame=fr at *;clear hdk hdn hfr;by_cases d1:dk=2
       ·have t1:(dk==2)=true:=zzl.2 d1
        by_cases d2:fr<=dn
        ·have t2:decide (fr<=dn)=true:=zzT d2
         have HR2:Hid ((181:Int)=R):=zzH (by rw [HRF.out,if_pos ⟨d1,d2⟩]);exact zz97
        ·have t2:decide (fr<=dn)=false:=zzD d2
         have HR2:Hid ((0:Int)=R):=zzH (by rw [HRF.out,if_neg (fun g=>d2 g.2)]);exact zz97
       ·have t1:(dk==2)=false:=zzB.2 d1
        have HR2:Hid ((0:Int)=R):=zzH (by rw [HRF.out,if_neg (fun g=>d1 g.1)]);clear d1;clear HRF HK HA HF3;go_wp2_with fail;go_quiet ((go_at_call 93;exact zze (zbp _ _ _)));go_wp2;go_ret;exact⟨zO HR2.out,zg HB3.out _⟩
theorem zjM (a t k:Int) (B:Nat) (w:World) (hB:B<w.heap.size) (hk:w.cell? ⟨B,0,none⟩=some (.int .i64 k)):
  Calls Tryz.prog 101 #[.agg #[.int .i64 a,.int .i64 t],.pointer (some ⟨B,0,none⟩)] w fun e w'=>e= .returned (.bool (t==k))/\Below w.heap.size w w':=by
 have hb0:=(zzR w.heap.size w).alloc (zzL _) (.cells #[.int .i64 a,.int .i64 t] 111);have k1:=(hb0.cell (p:=⟨B,0,none⟩) hB).trans hk;have HB:=zzH hb0;clear hb0;go_in;go_wp2;go_ret;exact⟨rfl,HB.out⟩
def zbJ (k:Int) (c:RCase):Bool:=c.to==k
theorem zh3 (cs:List RCase) (co:zzA) (cc:Nat) (k:Int) (B:Nat) (w:World) (hB:B<w.heap.size) (hk:w.cell? ⟨B,0,none⟩=some (.int .i64 k)) (hc:SlAt w 2 zbP co cs) (hl:cs.length<=1000):
  Calls Tryz.prog 142 #[.slice co cs.length cc,.func (.func 101) #[] #[.pointer (some ⟨B,0,none⟩)]] w fun e w'=>(∃r:Int,e= .returned (.int .i64 r)/\Hid (decide (0<=r)=cs.any (zbJ k)))/\Below w.heap.size w w':=by
 have HC:=zzH hc;have HK:=zzH hk;clear hc hk;obtain⟨m,hm⟩: ∃m,m=cs.length:=⟨_,rfl⟩;rw [<-hm]at hl ⊢;have HM:=zzH hm;clear hm;go_in;go_wp2_with fail;go_loopw [8] (fun iv wr=> ∃j:Nat,j<=m/\iv= .int .i64 j/\Hid (cs.any (zbJ k)=(cs.drop j).any (zbJ k))/\Hid (Below w.heap.size w wr)) (fun iv _=>m-(intOf iv).toNat)
 case atStart=>exact⟨0,zzZ _,rfl,zzH (by rw [List.drop_zero]),zzH (zzR _ _)⟩
 case round=>
  obtain⟨j,hj,rfl,HA,HF⟩:=hrel;rename World=>wr
  by_cases hlt:j<m
  ·have hjx:j<cs.length:=by rw [<-HM.out];exact hlt
   obtain⟨cb,cf,hco,hcb,q0,q1,-,-⟩:=(HC.out.mono HF.out (fun _ _ h=>h)).case hjx;subst hco;have hd:(cs.drop j).any (zbJ k)=((cs[j].to==k)||(cs.drop (j+1)).any (zbJ k)):=by rw [List.drop_eq_getElem_cons hjx,List.any_cons];rfl
   have HD:=zzH hd;clear hd;have hcal:=zjM cs[j].lit cs[j].to k B wr (zzW hB HF.out.size) ((HF.out.cell (p:=⟨B,0,none⟩) hB).trans HK.out);generalize cs[j].lit=a at *;generalize cs[j].to=t at *;have HCA:=zzH hcal;have hI0:(0:Int)<=(j:Int):=by omega
   have hI1:(j:Int)<(m:Int):=by omega
   clear hcal;generalize(t==k)=b at *
   cases b with
   |true=>
    have E:Hid (decide ((0:Int)<=(j:Int))=cs.any (zbJ k)):=zzH (by rw [HA.out,HD.out,decide_eq_true hI0];rfl);clear HA HD;go_wp2_with fail;refine HCA.out.mono ?_;rintro e w1 ⟨rfl,hb1⟩;have HB1:=zzH (HF.out.trans (hb1.mono HF.out.size));clear hb1;go_wp2;go_ret;exact⟨⟨_,rfl,E⟩,HB1.out⟩
   |false=>
    have E:Hid (cs.any (zbJ k)=(cs.drop (j+1)).any (zbJ k)):=zzH (by rw [HA.out,HD.out];rfl);clear HA HD;go_wp2_with fail;refine HCA.out.mono ?_;rintro e w1 ⟨rfl,hb1⟩;have HB1:=zzH (HF.out.trans (hb1.mono HF.out.size));clear hb1;go_wp2_with fail;go_roundw
    case rel=>exact⟨j+1,by omega,by go_num,E,HB1⟩
    case measure=>simp [intOf];omega
  ·obtain rfl:j=m:=by omega
   have E:Hid (decide ((0:Int)<= -1)=cs.any (zbJ k)):=zzH (by rw [HA.out,zzq10 (Nat.le_of_eq HM.out.symm)];rfl);clear HA;go_wp2;go_ret;exact⟨⟨_,rfl,E⟩,HF.out⟩
theorem zf7 (cs:List RCase) (co:zzA) (cc:Nat) (k:Int) (B:Nat) (w:World) (hB:B<w.heap.size) (hk:w.cell? ⟨B,0,none⟩=some (.int .i64 k)) (hc:SlAt w 2 zbP co cs) (hl:cs.length<=1000):
  Calls Tryz.prog 100 #[.slice co cs.length cc,.func (.func 101) #[] #[.pointer (some ⟨B,0,none⟩)]] w fun e w'=>e= .returned (.bool (cs.any (zbJ k)))/\Below w.heap.size w w':=by
 have H:=zzH (zh3 cs co cc k B w hB hk hc hl);clear hc hk hl;generalize cs.any (zbJ k)=R at *;go_in;go_wp2_with fail;refine H.out.mono ?_;rintro e w1 ⟨⟨r,rfl,HR⟩,hb1⟩;have HB:=zzH hb1;clear hb1 H;go_wp2;go_ret;exact⟨zi HR.out,HB.out⟩
theorem zcF (s:ByteArray):s.toList=s.data.toList:=by rw [ByteArray.toList_eq]
theorem zhc (E U mb p b o:Nat) (at':Int) (u:RUnit) (lo fo go co:zzA) (lc fc gc cc mc:Nat) (x:RIns) (s:VSt) (so co' go':zzA) (sc cc' gc':Nat) (w:World) (hx:VCx w E U mb at' u lo fo go co lc fc gc cc mc) (hi:IBox w b o x so co' go' sc cc' gc') (hs:StAt w p s) (ho:StOk s) (hl:zcv u)
  (hsrc:x.op=1->0<x.src.length/\ArgOk u s (zQ x)) (hsl:x.src.length<=1000):
  Calls Tryz.prog 135 #[.pointer (some ⟨E,0,none⟩),.pointer (some ⟨p,0,none⟩),.pointer (some ⟨b,o,none⟩)] w fun e w'=>e= .returned (.int .i64 (zck u s x))/\Below w.heap.size w w':=by
 have i0:=hi.c0;have i3:=hi.c3;have i7:=hi.c7;have HR:Hid (zck u s x=if x.op=1 then zb2 u s (zQ x)else if x.op=2\/x.op=13/\x.name.data.toList= [123,125]then 3+(x.src.length:Int)else if x.op=3\/x.op=13/\x.name.data.toList= [124]then 2 else 1):=zzH rfl;generalize zck u s x=R at *;by_cases h1:x.op=1
 ·obtain⟨hl0,hao⟩:=hsrc h1
  obtain⟨sb,off,rfl,hsb,q0,q1,-,-⟩:=hi.src.arg hl0
  have hsrc0:zQ x=x.src[0]:=by
   exact zz84
  have hkind:=zec E U mb p at' u lo fo go co lc fc gc cc mc s (zQ x) w hx hs ho hao hl;rw [<-hsrc0]at q0 q1;simp only [Nat.zero_mul,Nat.add_zero]at q0 q1;have HR2:Hid (R=zb2 u s (zQ x)):=zzH (by rw [HR.out,if_pos h1]);have HK:=zzH hkind;clear hkind hi hsrc hao hsrc0 hx hs HR i7;generalize zb2 u s (zQ x)=kt at *;generalize zQ x=a at *;have hI1:(0:Int)<(x.src.length:Int):=by omega
  generalize x.src.length=sl at *;rw [h1]at i0;clear h1;go_in;go_wp2_with fail;refine HK.out.mono ?_;rintro e w1 ⟨rfl,hb1⟩;go_wp2;go_ret;exact⟨zO HR2.out.symm,hb1⟩
 ·have t1:(x.op==1)=false:=zzB.2 h1
  have hw:IntKind.i64.wrap (3+(x.src.length:Int))=3+(x.src.length:Int):=by rw [zzq5];omega
  clear hi hsrc hx hs hsl;generalize x.src.length=sl at *;generalize x.op=op at *;generalize x.name=nm at *;by_cases h2:op=2
  ·have t2:(op==2)=true:=zzl.2 h2
   have HR2:Hid (R=3+(sl:Int)):=zzH (by rw [HR.out,if_neg h1,if_pos (.inl h2)]);clear HR h1 h2;exact zz85
  ·have t2:(op==2)=false:=zzB.2 h2
   by_cases h3:op=3
   ·have t3:(op==3)=true:=zzl.2 h3
    have t13:(op==13)=false:=by rw [zzq1];omega
    have HR2:Hid (R=2):=zzH (by rw [HR.out,if_neg h1,if_neg (by omega),if_pos (.inl h3)]);clear HR h1 h2 h3;exact zz85
   ·have t3:(op==3)=false:=zzB.2 h3
    by_cases h13:op=13
    ·have t13:(op==13)=true:=zzl.2 h13
     by_cases n1:nm.data.toList= [123,125]
     ·have m1:(nm.toList== [123,125])=true:=by rw [zcF,n1];rfl
      have HR2:Hid (R=3+(sl:Int)):=zzH (by rw [HR.out,if_neg h1,if_pos (.inr ⟨h13,n1⟩)]);clear HR h1 h2 h3 h13 n1;exact zz85
     ·have m1:(nm.toList== [123,125])=false:=by rw [zcF,zzq1];exact n1
      by_cases n2:nm.data.toList= [124]
      ·have m2:(nm.toList== [124])=true:=by rw [zcF,n2];rfl
       have HR2:Hid (R=2):=zzH (by rw [HR.out,if_neg h1,if_neg (fun g=>g.elim h2 fun g=>n1 g.2),if_pos (.inr ⟨h13,n2⟩)]);exact zz102
      ·have m2:(nm.toList== [124])=false:=by rw [zcF,zzq1];exact n2
       have HR2:Hid (R=1):=zzH (by rw [HR.out,if_neg h1,if_neg (fun g=>g.elim h2 fun g=>n1 g.2),if_neg (fun g=>g.elim h3 fun g=>n2 g.2)]);exact zz102
    ·have t13:(op==13)=false:=zzB.2 h13
     have HR2:Hid (R=1):=zzH (by rw [HR.out,if_neg h1,if_neg (fun g=>g.elim h2 fun g=>h13 g.1),if_neg (fun g=>g.elim h3 fun g=>h13 g.1)]);clear HR h1 h2 h3 h13;exact zz85
theorem ziq:(Rows.laid_stagehand_code_rows:DataW Unit)= .agg (rowT.map fun r=>.agg ([r.1,r.2.1,r.2.2].map fun z=>.lit (.int .i64 z))):=rfl
theorem rowsName:Tryz.prog.globalNamed "stagehand/code.rows" =some 0:=by kernel_rfl
theorem rowsType:(Tryz.prog.globals[0]?).map (·.type)=some 149:=by kernel_rfl
theorem zgJ:Tryz.prog.cellsOf 97=3:=by kernel_rfl
theorem zlT:Tryz.prog.cellsOf 3=1:=by kernel_rfl
theorem zf5 {W:World} (h:Lib.VarReads Tryz.prog W "stagehand/code.rows" Rows.laid_stagehand_code_rows):RowsAt W:=by
 obtain⟨g,t,cs,fuel,p,hg,ht,hv,hd⟩:=h;obtain rfl:=zzf (rowsName.symm.trans hg);obtain rfl:=zzf (rowsType.symm.trans ht);rw [ziq]at hd
 have hlt:0<W.heap.size:=by
  unfold World.var? at hv;rw [hg]at hv;simp only [Option.bind_some]at hv;split at hv
  ·rename_i h;exact(Array.getElem?_eq_some_iff.1 h).1
  ·cases hv
 refine⟨hlt,fun k hk=>?_⟩;obtain⟨f',d,q,h1,h2⟩:=Lib.array_elem Tryz.underlying149 hd k hk;rw [List.getElem?_map,zzq4 (by exact hk)]at h1;obtain rfl:=zzf h1
 have h3:=Lib.ints_of_struct Tryz.underlying97 (fun i f hf=>by
  have hi:=(Array.getElem?_eq_some_iff.1 hf).1;have hi:i<3:=hi;rcases(show i=0\/i=1\/i=2 by omega)with rfl|rfl|rfl
  all_goals
   obtain rfl:=zzf hf;exact⟨Tryz.underlying3,rfl,zlT⟩) zgJ h2
 rw [zgJ]at h3
 have hc: ∀i,i<3->cs[k*3+i]?=([(rowT[k]'hk).1,(rowT[k]'hk).2.1,(rowT[k]'hk).2.2].map fun z=>Value.int .i64 z)[i]?:=fun i hi=>by
  have h4:((cs.toList.drop (k*3)).take 3)[i]?=([(rowT[k]'hk).1,(rowT[k]'hk).2.1,(rowT[k]'hk).2.2].map fun z=>Value.int .i64 z)[i]?:=congrArg (fun l=>l[i]?) h3
  rw [List.getElem?_take_of_lt hi,List.getElem?_drop,Array.getElem?_toList]at h4;exact h4
 have hcell:=World.var?_cell hg hv;exact⟨(hcell (k*3)).trans (hc 0 (by decide)),(hcell (k*3+1)).trans (hc 1 (by decide)),(hcell (k*3+2)).trans (hc 2 (by decide))⟩
theorem zjr:Tryz.prog.globalNamed "strings.asciiSpace" =some 1:=by kernel_rfl
theorem zi8:(Tryz.prog.globals[1]?).map (·.type)=some 230:=by kernel_rfl
theorem zix:Tryz.prog.cellsOf 5=1:=by kernel_rfl
theorem zhw:Tryz.prog.cellsOf 230=256:=by kernel_rfl
theorem zg6:(Rows.laid_strings_asciiSpace:DataW Unit)=Lib.tabData .u8 Lib.asciiSpaceTab:=by kernel_rfl
theorem zlr {W:World} {l:List (String × DataW Unit)} (h:laidMet Tryz.prog l W) (hm:("stagehand/code.rows",Rows.laid_stagehand_code_rows)∈l):RowsAt W:=zf5 (Lib.laidMet.reads h hm)
theorem zko {W:World} {a:String × DataW Unit} {rest:List (String × DataW Unit)} (h:laidMet Tryz.prog (a::("strings.asciiSpace",Rows.laid_strings_asciiSpace)::rest) W):SpaceAt W:=by
 rw [zg6]at h;exact Lib.tabIs_of_head zjr zi8 Tryz.underlying230 Tryz.underlying5 zix zhw h.tail
noncomputable def zd7 (os:Os):World:=
 let N:=(World.settled Tryz.prog os).heap.size
 let w0:=World.holding Tryz.prog os ⟨#[.cells (Lib.whiteT.map fun(z:Nat)=>Value.int .u16 (z:Int)).toArray 276,.cells #[.slice (some ⟨N,0,none⟩) 7 7,.slice none 0 0,.int .i64 2] 273],#[],[]⟩
 let put (h:Array Obj) (g:Nat) (cs:Array Value):Array Obj:=h.modify g fun
  |.cells _ t frozen=>.cells cs t frozen
  |o=>o
 let h1:=put w0.heap 1 (Lib.asciiSpaceTab.map fun z=>Value.int .u8 z).toArray
 let h2:=put h1 3 #[.pointer (some ⟨N+1,0,none⟩)]
 let h3:=put h2 0 (rowT.flatMap fun r=>[Value.int .i64 r.1,Value.int .i64 r.2.1,Value.int .i64 r.2.2]).toArray
 {w0 with heap:=h3}
end Go.Proofs.YtepjanajflkakaaGreatDoor
