import Derived.Test.YtijekmeocadkeaaGreatDoorW11
import Derived.Test.YtijekmeocadkeaaGreatDoorW12
import Derived.Test.YtijekmeocadkeaaGreatDoorW13
namespace Go.Proofs.YtijekmeocadkeaaGreatDoor
open Go.RowKit
set_option linter.unusedVariables false
set_option linter.unusedSimpArgs false
set_option maxRecDepth 100000
set_option maxHeartbeats 0
def zkJ (K:Tm->Nat) (T:Nat->List UInt8->Option ((Tm × Nat) × List UInt8)):Prop:= ∀p l t p' l',T p l=some ((t,p'),l')->p'=p+K t
theorem zkH {K:Tm->Nat} {T:Nat->List UInt8->Option ((Tm × Nat) × List UInt8)} (H:zkJ K T): ∀(n p:Nat) (l:List UInt8) (ts:List Tm) (p':Nat) (l':List UInt8),zci T n p l=some ((ts,p'),l')->p'=p+(ts.map K).sum
 |0,p,l,ts,p',l',h=>by
  simp only [zci,Option.some.injEq,Prod.mk.injEq]at h;obtain⟨⟨rfl,rfl⟩,rfl⟩:=h
  rfl
 |n+1,p,l,ts,p',l',h=>by
  unfold zci at h;obtain⟨x,hx,h⟩:=zzO.1 h;obtain⟨y,hy,h⟩:=zzO.1 h;simp only [zzX0]at h;obtain⟨⟨rfl,rfl⟩,rfl⟩:=h;have e1:=H p l x.1.1 x.1.2 x.2 hx;have e2:=zkH H n x.1.2 x.2 y.1.1 y.1.2 y.2 hy;rw [List.map_cons,List.sum_cons];omega
theorem zkw {K:Tm->Nat} {T:Nat->List UInt8->Option ((Tm × Nat) × List UInt8)} (H:zkJ K T) {n p:Nat} {l:List UInt8} {x:(List Tm × Nat) × List UInt8} (h:zcc T n p l=some x):x.1.2=p+(x.1.1.map K).sum:=by
 unfold zcc at h;split at h
 ·exact zkH H n p l x.1.1 x.1.2 x.2 h
 ·exact zz83
theorem zt3 {K:Tm->Nat} {T:Nat->List UInt8->Option ((Tm × Nat) × List UInt8)} (H:zkJ K T) {p:Nat} {l:List UInt8} {t:Tm} {p':Nat} {l':List UInt8} (h:zc0 T p l=some ((t,p'),l')):p'=p+(t.items.map K).sum:=by
 unfold zc0 ze7 zeA at h;obtain⟨x,hx,h⟩:=zzO.1 h;split at h
 ·obtain⟨a,ha,h⟩:=zzO.1 h
  obtain⟨b,hb,h⟩:=zzO.1 h;obtain⟨c,hc,h⟩:=zzO.1 h;split at h
  ·obtain⟨d,hd,h⟩:=zzO.1 h
   simp only [zzX0]at h;obtain⟨⟨rfl,rfl⟩,rfl⟩:=h
   rfl
  ·exact zz83
 split at h
 ·obtain⟨a,ha,h⟩:=zzO.1 h
  obtain⟨b,hb,h⟩:=zzO.1 h;obtain⟨c,hc,h⟩:=zzO.1 h;obtain⟨d,hd,h⟩:=zzO.1 h;obtain⟨e,he,h⟩:=zzO.1 h;obtain⟨q,hq,h⟩:=zzO.1 h;simp only [zzX0]at h;obtain⟨⟨rfl,rfl⟩,rfl⟩:=h;exact zkw H hq
 ·exact zz83
theorem zuc {K:Tm->Nat} {T:Nat->List UInt8->Option ((Tm × Nat) × List UInt8)} (H:zkJ K T) {p tag:Nat} {l0 l:List UInt8} {t:Tm} {p':Nat} {l':List UInt8} (h:zda T p l0 tag l=some ((t,p'),l')):p'=p+(t.items.map K).sum:=by
 unfold zda at h;by_cases c:tag=97
 ·exact zz110
 rw [if_neg c]at h;clear c;by_cases c:tag=98
 ·rw [if_pos c]at h
  obtain⟨x,hx,h⟩:=zzO.1 h;split at h
  ·exact zz112
  ·exact zz83
 rw [if_neg c]at h;clear c;by_cases c:tag=110
 ·exact zz110
 rw [if_neg c]at h;clear c;by_cases c:tag=119
 ·exact zz109
 rw [if_neg c]at h;clear c;by_cases c:tag=104
 ·exact zz108
 rw [if_neg c]at h;clear c;by_cases c:tag=106
 ·rw [if_pos c]at h
  exact zz112
 rw [if_neg c]at h;clear c;by_cases c:tag=108
 ·exact zz108
 rw [if_neg c]at h;clear c;by_cases c:tag=109
 ·exact zz109
 rw [if_neg c]at h;clear c;by_cases c:tag=77
 ·rw [if_pos c]at h
  obtain⟨x,hx,h⟩:=zzO.1 h;obtain⟨y,hy,h⟩:=zzO.1 h;split at h
  ·obtain⟨z,hz,h⟩:=zzO.1 h
   exact zz112
  ·exact zz83
 rw [if_neg c]at h;clear c;by_cases c:tag=88
 ·rw [if_pos c]at h
  obtain⟨x,hx,h⟩:=zzO.1 h;obtain⟨y,hy,h⟩:=zzO.1 h;obtain⟨z,hz,h⟩:=zzO.1 h;split at h
  ·exact zz111
  ·exact zz83
 rw [if_neg c]at h;clear c;by_cases c:tag=90
 ·rw [if_pos c]at h
  obtain⟨x,hx,h⟩:=zzO.1 h;split at h
  ·obtain⟨y,hy,h⟩:=zzO.1 h
   obtain⟨z,hz,h⟩:=zzO.1 h;exact zz111
  ·exact zz83
 rw [if_neg c]at h;clear c;exact zt3 H h
theorem zl4: ∀f,zkJ (zbg f) (zy f)
 |0,p,l,t,p',l',h=>absurd h (by simp [zy])
 |f+1,p,l,t,p',l',h=>by
  unfold zy at h;split at h
  ·obtain⟨x,hx,h⟩:=zzO.1 h
   have:=zuc (zl4 f) h;unfold zbg;omega
  ·exact zz83
theorem zmf {f:Nat}: ∀(ts:List Tm),(∀x∈ts,zG f x+1<=301*zbg f x)->zbR (ts.map (zG f))+ts.length<=301*(ts.map (zbg f)).sum
 |[],_=>zzL _
 |x::ts,h=>by
  have h1:=h x (zzg ..);have h2:=zmf ts fun y hy=>h y (zzh _ hy)
  rw [List.map_cons,List.map_cons,List.sum_cons,zzq18];show zG f x+zbR (ts.map (zG f))+_<=_;omega
theorem zhc: ∀(f:Nat) (t:Tm),OkF f t->zG f t+1<=301*zbg f t
 |0,t,h=>h.elim
 |f+1,t,h=>by
  have h1:=zmf t.items fun x hx=>zhc f x (h.2 x hx)
  show 300+t.items.length+zbR (t.items.map (zG f))+1<=301*(1+(t.items.map (zbg f)).sum);omega
theorem zgu (n:Int) (w:World) (hn:I64 n):
  Calls Tryz.prog 132 #[.int .i64 n] w (zfU w (zbJ n)):=by
 obtain⟨i0,hi,hz0,hz1,hz2⟩:=info_parts zdw;have HE:Hid (zbJ n=if 0<=n/\n<=255 then [97,UInt8.ofNat n.toNat]else if -2147483648<=n/\n<=2147483647 then 98::beN 4 n else zgU n):=zzH rfl;generalize zbJ n=E at *;by_cases h1:0<=n/\n<=255
 ·rw [if_pos h1]at HE
  obtain⟨a1,a2⟩:=h1;have hown:=zff (w:=w) (B:=w.heap.size) #[.int .u8 97,.int .u8 n] [97,UInt8.ofNat n.toNat] 2 (zzL _) rfl (by simp [zo];omega) (by omega);have hb:Below w.heap.size w (w.alloc (.cells #[.int .u8 97,.int .u8 n] 5)):=zzE _ _;have HF:=zzH (And.intro hown hb);clear hown hb;go_in;go_wp2;go_ret;exact⟨_,rfl,by rw [HE.out];exact HF.out.1,HF.out.2⟩
 ·rw [if_neg h1]at HE
  by_cases h2: -2147483648<=n/\n<=2147483647
  ·rw [if_pos h2]at HE
   have hown:=zff (w:=w) (B:=w.heap.size) #[.int .u8 98] [98] 1 (zzL _) rfl rfl (by omega);have hb:Below w.heap.size w (w.alloc (.cells #[.int .u8 98] 5)):=zzE _ _;have hc:=zb9 n 4 (w.alloc (.cells #[.int .u8 98] 5)) hn (by omega);refine zzK3 hown hb hc fun HO HB HC=>?_;obtain⟨b1,b2⟩:=h2;clear hown hb hc;by_cases h0:0<=n
   ·have h3:256<=n:=by omega
    clear h1;exact zz165
   ·have h3:n<0:=by omega
    clear h1 h0;exact zz165
  ·rw [if_neg h2]at HE
   have HBG:Hid (E=110::UInt8.ofNat (leN 8 n.natAbs).length::(if n<0 then 1 else 0)::leN 8 n.natAbs):=zzH HE.out;obtain⟨n0,n1⟩:=hn;clear HE;generalize hAA:leN 8 n.natAbs=A at HBG;have HA:Hid (A= []++leN 8 n.natAbs):=zzH hAA.symm;have HAA:=zzH hAA;by_cases h0:n<0
   ·have h3:n< -2147483648:=by omega
    have HS:Hid (IntKind.u64.wrap (-IntKind.u64.wrap n)=(n.natAbs:Int)):=zzH (by rw [IntKind.wrap_u64,IntKind.wrap_u64];omega);clear h1 h2 hAA;go_in;go_wp2_with fail;go_loopw [4,5] (fun uv lv wr=> ∃(m f:Nat) (xs:List UInt8),uv= .int .u64 (m:Int)/\m<256^f/\m<=9223372036854775808/\xs.length+f=8/\Hid (A=xs++leN f m)/\Hid (wr.ownsRow w.heap.size 5 1 lv xs.length (zo xs))/\Below w.heap.size w wr) (fun uv _ _=>(intOf uv).toNat)
    case atStart=>exact⟨n.natAbs,8,[],by rw [HS.out],by omega,by omega,rfl,HA,zzH (World.ownsRow_nil _ _ _ _),zzR _ _⟩
    case round=>
     obtain⟨m,f,xs,rfl,hm,hmx,hxf,HV,HO,hB⟩:=hrel;rename World=>wr
     have hown:=HO.out;have hsz0:=hB.size;by_cases hm0:0<m
     ·exact zz164
     ·obtain rfl:m=0:=by omega
      have HV2:Hid (A=xs):=zzH (by rw [HV.out,zgZ,List.append_nil])
      have hxn:xs≠ []:=fun e=>by
       exact zz135
      have hxl:0<xs.length:=List.length_pos_iff.2 hxn;have HX:Hid (∃g cap cur,(_:Value)= .slice (some ⟨g,0,none⟩) xs.length cap/\w.heap.size<=g/\wr.heap[g]?=some (.cells cur 5 (0,0))/\cur.toList.take xs.length=zo xs):=zzH (zbk HO.out hxn)
      obtain⟨g,cap,cur,rfl,hg1,hg2,hg3⟩:=HX.out;have hlo:=zff (w:=wr) (B:=w.heap.size) #[.int .u8 110,.int .u8 xs.length,.int .u8 1] [110,UInt8.ofNat xs.length,1] 3 hsz0 rfl (by simp [zo];omega) (by omega);have hbl:Below wr.heap.size wr (wr.alloc (.cells #[.int .u8 110,.int .u8 xs.length,.int .u8 1] 5)):=zzE _ _;refine zzK3 (zbq ((hbl.block g (zc hg2)).trans hg2) hg3) hlo (hB.trans (hbl.mono hsz0)) fun HN HLO HBL=>?_;clear hg1 hg2 hg3 hxn HX HO hown hlo hbl;go_wp2_with (at_builtin;refine wpList_append_own_at _ rfl (.tmp 45) (.tmp 46) 65 rfl w.heap.size 5 i0 (.int .u8 0) 1 1 Tryz.underlying65 hi hz0 hz1 hz2 rfl (by decide) _ 3 (zo [110,UInt8.ofNat xs.length,1]) rfl HLO.out ⟨g,0,none⟩ xs.length cap (zo xs) rfl (by rw [zbf];omega) HN.out (zbl _) (by unfold maxLen;omega) (by omega) (by simp;omega) ?_);intro v' w2 hown' hgrow hnil hloc
      have HF:Hid (w2.ownsRow w.heap.size 5 1 v' E.length (zo E)/\Below w.heap.size w w2):=zzH ⟨by
       have e:E= [110,UInt8.ofNat xs.length,1]++xs:=by rw [HBG.out,HV2.out];rw [if_pos h0];rfl
       rw [e,zeg,zzq1];exact hown',HBL.out.grown hgrow (by simp;omega) (fun k hk=>(HLO.out.lt k hk).1)⟩
      clear hown' hgrow hnil hloc;go_wp2;go_ret;exact⟨_,rfl,HF.out⟩
   ·have h3:2147483647<n:=by omega
    have HS:Hid (n=(n.natAbs:Int)):=zzH (by omega);have h4:0<=n:=by omega
    clear h1 h2 hAA h0;go_in;go_wp2_with fail;go_loopw [4,5] (fun uv lv wr=> ∃(m f:Nat) (xs:List UInt8),uv= .int .u64 (m:Int)/\m<256^f/\m<=9223372036854775808/\xs.length+f=8/\Hid (A=xs++leN f m)/\Hid (wr.ownsRow w.heap.size 5 1 lv xs.length (zo xs))/\Below w.heap.size w wr) (fun uv _ _=>(intOf uv).toNat)
    case atStart=>exact⟨n.natAbs,8,[],congrArg _ HS.out,by omega,by omega,rfl,HA,zzH (World.ownsRow_nil _ _ _ _),zzR _ _⟩
    case round=>
     obtain⟨m,f,xs,rfl,hm,hmx,hxf,HV,HO,hB⟩:=hrel;rename World=>wr
     have hown:=HO.out;have hsz0:=hB.size;by_cases hm0:0<m
     ·exact zz164
     ·obtain rfl:m=0:=by omega
      have HV2:Hid (A=xs):=zzH (by rw [HV.out,zgZ,List.append_nil])
      have hxn:xs≠ []:=fun e=>by
       exact zz135
      have hxl:0<xs.length:=List.length_pos_iff.2 hxn;have HX:Hid (∃g cap cur,(_:Value)= .slice (some ⟨g,0,none⟩) xs.length cap/\w.heap.size<=g/\wr.heap[g]?=some (.cells cur 5 (0,0))/\cur.toList.take xs.length=zo xs):=zzH (zbk HO.out hxn)
      obtain⟨g,cap,cur,rfl,hg1,hg2,hg3⟩:=HX.out;have hlo:=zff (w:=wr) (B:=w.heap.size) #[.int .u8 110,.int .u8 xs.length,.int .u8 0] [110,UInt8.ofNat xs.length,0] 3 hsz0 rfl (by simp [zo];omega) (by omega);have hbl:Below wr.heap.size wr (wr.alloc (.cells #[.int .u8 110,.int .u8 xs.length,.int .u8 0] 5)):=zzE _ _;refine zzK3 (zbq ((hbl.block g (zc hg2)).trans hg2) hg3) hlo (hB.trans (hbl.mono hsz0)) fun HN HLO HBL=>?_;clear hg1 hg2 hg3 hxn HX HO hown hlo hbl;go_wp2_with (at_builtin;refine wpList_append_own_at _ rfl (.tmp 45) (.tmp 46) 65 rfl w.heap.size 5 i0 (.int .u8 0) 1 1 Tryz.underlying65 hi hz0 hz1 hz2 rfl (by decide) _ 3 (zo [110,UInt8.ofNat xs.length,0]) rfl HLO.out ⟨g,0,none⟩ xs.length cap (zo xs) rfl (by rw [zbf];omega) HN.out (zbl _) (by unfold maxLen;omega) (by omega) (by simp;omega) ?_);intro v' w2 hown' hgrow hnil hloc
      have HF:Hid (w2.ownsRow w.heap.size 5 1 v' E.length (zo E)/\Below w.heap.size w w2):=zzH ⟨by
       have e:E= [110,UInt8.ofNat xs.length,0]++xs:=by rw [HBG.out,HV2.out];rw [if_neg (by omega)];rfl
       rw [e,zeg,zzq1];exact hown',HBL.out.grown hgrow (by simp;omega) (fun k hk=>(HLO.out.lt k hk).1)⟩
      clear hown' hgrow hnil hloc;go_wp2;go_ret;exact⟨_,rfl,HF.out⟩
theorem ziu {n:ByteArray} {a:Int}: ∀(l:List RFunc) (i k:Nat) (h:k<l.length),l[k].name=n->l[k].arity=a-> ∃j,zcT n a l i=some (i+j)/\j<=k/\(zcj (l.take k) n a=decide (j<k))
 |[],_,_,h,_,_=>absurd h (zzC _)
 |x::l,i,k,h,hn,ha=>by
  by_cases hx:x.name=n/\x.arity=a
  ·refine⟨0,by unfold zcT;rw [if_pos hx];rfl,zzZ _,?_⟩
   cases k with
   |zero=>rfl
   |succ k=>
    rw [List.take_succ_cons,decide_eq_true (Nat.succ_pos k)];unfold zcj;rw [List.any_cons,hx.1,hx.2];simp
  ·cases k with
   |zero=>exact absurd ⟨hn,ha⟩ hx
   |succ k=>
    obtain⟨j,h1,h2,h3⟩:=ziu l (i+1) k (by simpa using h) hn ha;refine⟨j+1,by unfold zcT;rw [if_neg hx,h1];congr 1;omega,by omega,?_⟩;rw [List.take_succ_cons]
    have e:zcj (x::l.take k) n a=zcj (l.take k) n a:=by
     unfold zcj;rw [List.any_cons]
     have:(x.name.data.toList==n.data.toList&&x.arity==a)=false:=by
      rw [Bool.and_eq_false_iff];by_cases h1:x.name=n
      ·right;rw [zzq3];exact fun h=>hx ⟨h1,h⟩
      ·left;rw [zzq3];intro h2
       apply h1;have:x.name.data=n.data:=Array.toList_inj.1 h2;exact congrArg ByteArray.mk this
     rw [this,zzq9]
    rw [e,h3,Bool.eq_iff_iff,zzq7,zzq7];omega
theorem zrw (funcs:List RFunc) (k:Nat) (h:k<funcs.length): ∃j:Nat,zgI funcs[k].name funcs[k].arity funcs=j/\j<=k/\zcj (funcs.take k) funcs[k].name funcs[k].arity=decide (j<k):=by
 obtain⟨j,h1,h2,h3⟩:=ziu funcs 0 k h rfl rfl;refine⟨j,?_,h2,h3⟩;unfold zgI;rw [h1];simp
theorem zmL {last:Int} {funcs:List RFunc} (h: ∀k,(h:k<funcs.length)->zeq last funcs[k]=true/\zcj (funcs.take k) funcs[k].name funcs[k].arity=false):zdN last funcs=true:=zzT h
theorem zsP (u:RUnit):zgE u=(zw u.mdl&&(decide (1<=u.vsn)&&(decide (u.vsn<=2147483647)&&(wi u.code.length 1 524288&&(decide (u.lits.length<=65535)&&(decide (u.funcs.length<=200)&&decide (u.funs.length<=1000))))))):=by
 unfold zgE wi
 have e:(decide (0<=(u.code.length:Int)-1)&&decide ((u.code.length:Int)-1<524288))=(decide ((1:Int)<=u.code.length)&&decide ((u.code.length:Int)<=524288)):=by
  rw [Bool.eq_iff_iff];simp only [zzq6,zzq7];omega
 rw [<-Bool.and_assoc (decide (0<=_)),e]
theorem znw {w:World} {B:Nat} {v0 v1 v2 v3:Value} (h:w.heap[B]?=some (.cells #[v0,v1,v2,v3] 57 (0,0))):
  w.cell? ⟨B,0,none⟩=some v0/\w.cell? ⟨B,1,none⟩=some v1/\w.cell? ⟨B,2,none⟩=some v2/\w.cell? ⟨B,3,none⟩=some v3:=by
 have hc:=fun j=>zzq2 w B j _ _ _ h
 exact⟨hc 0,hc 1,hc 2,hc 3⟩
theorem zlo (f:Nat) (u:RUnit) (lo fo go co:zzA) (lc fc gc cc:Nat) (w:World) (hp:UP w u lo fo go co) (hlits:SlAt w 9 (TmAt w (f+1)) lo u.lits) (hcap: ∀t∈u.lits,(zG (f+1) t:Int)<=1152921504606846976):
  Calls Tryz.prog 80 #[.agg (zzu u lo lc fo fc go gc co cc)] w fun e w'=>e= .returned (.bool (zM (f+1) u))/\Below w.heap.size w w':=by
 unfold zzu;have HE:Hid (zM (f+1) u=(zgE u&&(u.lits.all (zA (f+1))&&(zdN ((u.code.length:Int)-1) u.funcs&&u.funs.all (zct ((u.code.length:Int)-1)))))):=zzH rfl;have hta:=zsP u;have hl1:=hp.litsLen;have hl2:=hp.funcsLen;have hl3:=hp.funsLen;have hl4:=hp.codeLen;have hmd:u.mdl.size<=maxLen:=by unfold maxLen;exact hp.mdlLen
 have hwc:=fun wx=>zK (u.code.length:Int) 1 524288 wx
 have hnm:=fun wx=>zdE u.mdl wx hmd
 refine zzK3 hp hlits hcap fun HP0 HLT0 HCAP=>?_;clear hp hlits hcap hmd;have hbx:=zcJ w u lo fo go co lc fc gc cc;have hba:Below w.heap.size w (w.alloc (.cells (zzu u lo lc fo fc go gc co cc) 27)):=zzE _ _;go_in;go_upto_region 1 with fail;generalize w.alloc (.cells (zzu u lo lc fo fc go gc co cc) 27)=W at *;refine zzK3 hba (HP0.out.below hba) (HLT0.out.tms hba) fun HBA HP HLT=>?_;clear hba HP0 HLT0;generalize hBz:w.heap.size=B at *;have HBZ:=zzH hBz;clear hBz;have HFIN:Hid (∀wx,Below W.heap.size W wx->Below B w wx):=zzH (fun wx hh=>HBA.out.trans (hh.mono (by have:=HBA.out.size;have:=HBZ.out;omega)));have HU:=zzH hbx;have c0:=hbx.c0;have c1:=hbx.c1;have c2:=hbx.c2;have c3:=hbx.c3;have c4:=hbx.c4;have c5:=hbx.c5;have hlu:=hbx.lt;clear hbx;generalize zgE u=ta at *;have HTA:=zzH hta;clear hta;go_cut [48] (fun s wx=> ∃n1:Bool,s= .bool n1/\Hid (n1= !ta)/\W=wx)
 case first=>
  generalize zw u.mdl=nm at *;generalize wi u.code.length 1 524288=wc at *
  cases nm with
  |false=>
   have E:Hid (true= !ta):=zzH (by rw [HTA.out];rfl);exact zz190
  |true=>
   by_cases v1:u.vsn<1
   ·have E:Hid (true= !ta):=zzH (by rw [HTA.out,decide_eq_false (by omega: ¬(1<=u.vsn))];rfl)
    exact zz190
   have d1:decide (1<=u.vsn)=true:=zzT (by omega);by_cases v2:2147483647<u.vsn
   ·have E:Hid (true= !ta):=zzH (by rw [HTA.out,d1,decide_eq_false (by omega: ¬(u.vsn<=2147483647))];rfl)
    clear d1;exact zz190
   have d2:decide (u.vsn<=2147483647)=true:=zzT (by omega);by_cases n1:65535<u.lits.length
   ·have E:Hid (true= !ta):=zzH (by rw [HTA.out,d1,d2,decide_eq_false (by omega: ¬(u.lits.length<=65535))];cases wc<;>rfl)
    have n1':(65535:Int)<(u.lits.length:Int):=by omega
    clear d1 d2;exact zz190
   have d3:decide (u.lits.length<=65535)=true:=zzT (by omega);by_cases n2:200<u.funcs.length
   ·have E:Hid (true= !ta):=zzH (by rw [HTA.out,d1,d2,d3,decide_eq_false (by omega: ¬(u.funcs.length<=200))];cases wc<;>rfl)
    have n1':(u.lits.length:Int)<=65535:=by omega
    have n2':(200:Int)<(u.funcs.length:Int):=by omega
    clear d1 d2 d3;exact zz190
   have d4:decide (u.funcs.length<=200)=true:=zzT (by omega);by_cases n3:1000<u.funs.length
   ·have E:Hid (true= !ta):=zzH (by rw [HTA.out,d1,d2,d3,d4,decide_eq_false (by omega: ¬(u.funs.length<=1000))];cases wc<;>rfl)
    have n1':(u.lits.length:Int)<=65535:=by omega
    have n2':(u.funcs.length:Int)<=200:=by omega
    have n3':(1000:Int)<(u.funs.length:Int):=by omega
    clear d1 d2 d3 d4;exact zz190
   have d5:decide (u.funs.length<=1000)=true:=zzT (by omega);have E:Hid ((!wc)= !ta):=zzH (by rw [HTA.out,d1,d2,d3,d4,d5];cases wc<;>rfl);have n1':(u.lits.length:Int)<=65535:=by omega
   have n2':(u.funcs.length:Int)<=200:=by omega
   have n3':(u.funs.length:Int)<=1000:=by omega
   clear d1 d2 d3 d4 d5
   cases wc with
   |false=>
    go_wp2_with (first|(go_at_call 121;refine(hnm _).mono ?_;rintro e w1 ⟨rfl,rfl⟩)|(go_at_call 122;refine(hwc _).mono ?_;rintro e w1 ⟨rfl,rfl⟩));go_meet
    case rel=>exact⟨_,rfl,E,rfl⟩
   |true=>
    go_wp2_with (first|(go_at_call 121;refine(hnm _).mono ?_;rintro e w1 ⟨rfl,rfl⟩)|(go_at_call 122;refine(hwc _).mono ?_;rintro e w1 ⟨rfl,rfl⟩));go_meet
    case rel=>exact⟨_,rfl,zzH (by rw [decide_eq_false (by omega: ¬u.vsn<1),decide_eq_false (by omega: ¬2147483647<u.vsn),decide_eq_false (by omega: ¬(65535:Int)<(u.lits.length:Int)),decide_eq_false (by omega: ¬(200:Int)<(u.funcs.length:Int)),decide_eq_false (by omega: ¬(1000:Int)<(u.funs.length:Int))];exact E.out),rfl⟩
 case rest=>
  obtain⟨n1,rfl,hn1,rfl⟩:=hcut;clear HTA hwc hnm
  cases ta with
  |false=>
   exact zz186
  |true=>
   obtain rfl:n1=false:=hn1.out;have HE1:Hid (zM (f+1) u=(u.lits.all (zA (f+1))&&(zdN ((u.code.length:Int)-1) u.funcs&&u.funs.all (zct ((u.code.length:Int)-1))))):=zzH (by rw [HE.out,zzq15]);have HK0:Hid (u.lits.all (zA (f+1))=(u.lits.drop 0).all (zA (f+1))):=zzH rfl;clear HE;go_wp2_with fail;go_loopw [3] (fun i wr=> ∃k:Nat,k<=u.lits.length/\i= .int .i64 k/\Hid (u.lits.all (zA (f+1))=(u.lits.drop k).all (zA (f+1)))/\Below W.heap.size W wr) (fun i _=>u.lits.length-(intOf i).toNat)
   case atStart=>exact⟨0,zzZ _,rfl,HK0,zzR _ _⟩
   case round=>
    obtain⟨k,hk,rfl,HK,hBw⟩:=hrel;rename World=>wr
    clear c0 c1 c2 c3 c4 c5 hlu;have hur:=HU.out.below hBw;have HBWR:=zzH hBw;have c2:=hur.c2;have c3:=hur.c3;have hlu:=hur.lt;clear hur hBw;by_cases hlt:k<u.lits.length
    ·obtain⟨b2,off2,ai,ci,hlo,hb2,p0,p1,p2,p3,p4,p5,p6,p7,p8,hit,hok⟩:=(HLT.out.tms HBWR.out).tm hlt
     subst hlo;have hv:=zfn f u.lits[k] ai ci wr hit hok (HCAP.out _ (zzM hlt));have HSTP:=zzH (zgQ (p:=zA (f+1)) hlt);clear hit hok;generalize zA (f+1) u.lits[k]=vv at *;generalize u.lits[k]=t at *
     cases vv with
     |false=>
      have E:Hid (zM (f+1) u=false):=zzH (by rw [HE1.out,HK.out,HSTP.out];rfl);go_wp2_with fail;refine hv.mono ?_;rintro e w5 ⟨rfl,hb5⟩;go_wp2;go_ret;exact⟨zn E.out.symm,by rw [HBZ.out];exact HFIN.out _ (zd HBWR.out hb5)⟩
     |true=>
      have HK2:Hid (u.lits.all (zA (f+1))=(u.lits.drop (k+1)).all (zA (f+1))):=zzH (by rw [HK.out,HSTP.out,zzq15]);go_wp2_with fail;refine hv.mono ?_;rintro e w5 ⟨rfl,hb5⟩;go_wp2_with fail;go_roundw
      case rel=>exact⟨k+1,by omega,by go_num,HK2,zd HBWR.out hb5⟩
      case measure=>simp [intOf];omega
    ·have HE2:Hid (zM (f+1) u=(zdN ((u.code.length:Int)-1) u.funcs&&u.funs.all (zct ((u.code.length:Int)-1)))):=zzH (by rw [HE1.out,HK.out,zzq8 (by omega)];rfl)
     have HF0:Hid (∀j,(h:j<u.funcs.length)->j<0->zeq ((u.code.length:Int)-1) u.funcs[j]=true/\zcj (u.funcs.take j) u.funcs[j].name u.funcs[j].arity=false):=zzH (fun j h hj=>absurd hj (zzC _));clear HE1 HK;obtain⟨wo,rfl⟩: ∃wo:World,wo=wr:=⟨_,rfl⟩;go_wp2_with fail;go_loopw [4,5,6,7] (fun i _ _ _ wq=> ∃k:Nat,k<=u.funcs.length/\i= .int .i64 k/\Hid (∀j,(h:j<u.funcs.length)->j<k->zeq ((u.code.length:Int)-1) u.funcs[j]=true/\zcj (u.funcs.take j) u.funcs[j].name u.funcs[j].arity=false)/\Below W.heap.size W wq) (fun i _ _ _ _=>u.funcs.length-(intOf i).toNat)
     case atStart=>exact⟨0,zzZ _,rfl,HF0,HBWR.out⟩
     case round=>
      obtain⟨k,hk,rfl,HK,hBq⟩:=hrel;rename World=>wr
      clear c2 c3 hlu HBWR HF0;have hur:=HU.out.below hBq;have HBQ:=zzH hBq;have c3:=hur.c3;have c4:=hur.c4;have c5:=hur.c5;have hlu:=hur.lt;by_cases hlt:k<u.funcs.length
      ·obtain⟨b1,off1,hfo,hb1,s0,s1,s2,s3,t0,t1,t2⟩:=(HP.out.funcs.mono hBq fun _ _ h=>h).func hlt
       subst hfo;obtain⟨j,hj1,hj2,hj3⟩:=zrw u.funcs k hlt;have hfn:zeq ((u.code.length:Int)-1) u.funcs[k]=(zw u.funcs[k].name&&(wi u.funcs[k].arity 0 16&&wi u.funcs[k].entry 0 ((u.code.length:Int)-1))):=rfl;have hbox:=zzF wr (.cells #[.string u.funcs[k].name,.int .i64 u.funcs[k].arity,.bool u.funcs[k].pub,.int .i64 u.funcs[k].entry] 57);have hbxb:Below wr.heap.size wr (wr.alloc (.cells #[.string u.funcs[k].name,.int .i64 u.funcs[k].arity,.bool u.funcs[k].pub,.int .i64 u.funcs[k].entry] 57)):=zzE _ _;have hfi:=zoA u lo (some ⟨b1,off1,none⟩) go co lc fc gc cc u.funcs[k].name u.funcs[k].arity _ (HP.out.below (hBq.trans (hbxb.mono hBq.size)));rw [hj1]at hfi;have hNO:(zeq ((u.code.length:Int)-1) u.funcs[k]=false\/zcj (u.funcs.take k) u.funcs[k].name u.funcs[k].arity=true)->zM (f+1) u=false:=fun h=>by rw [HE2.out,zjw hlt h];rfl
       have hYES:zeq ((u.code.length:Int)-1) u.funcs[k]=true->zcj (u.funcs.take k) u.funcs[k].name u.funcs[k].arity=false-> ∀j,(h:j<u.funcs.length)->j<k+1->zeq ((u.code.length:Int)-1) u.funcs[j]=true/\zcj (u.funcs.take j) u.funcs[j].name u.funcs[j].arity=false:=fun h1 h2 j h hj=>by
        rcases Nat.lt_or_ge j k with h3|h3
        ·exact HK.out j h h3
        ·obtain rfl:j=k:=by omega
         exact⟨h1,h2⟩
       rw [hj3]at hNO hYES;rw [hfn]at hNO hYES;refine zzK3 hNO hYES hfi fun HNO HYES HFI=>?_;have hwr1:=zzV u.code.length (by omega)
       have hn:=fun wx=>zdE u.funcs[k].name wx t0
       have hw1:=fun wx=>zK u.funcs[k].arity 0 16 wx
       have hw2:=fun wx=>zK u.funcs[k].entry 0 ((u.code.length:Int)-1) wx
       refine zzK3 (hur.below hbxb) hbxb hbox fun HUX HBX HBOX=>?_;clear hNO hYES hj1 hj3 hfn hfi hbxb hbox hur hBq t0 t1 t2;generalize zhy u.funcs[k].name u.funcs[k].arity u.funcs=fb at *;generalize zw u.funcs[k].name=nb at *;generalize wi u.funcs[k].arity 0 16=ab at *;generalize wi u.funcs[k].entry 0 ((u.code.length:Int)-1)=eb at *;generalize u.funcs[k]=fn at *;obtain⟨fnm,far,fpb,fen⟩:=fn;simp only at *
       cases nb with
       |false=>
        exact zz189
       |true=>
        cases ab with
        |false=>
         exact zz189
        |true=>
         cases eb with
         |false=>
          exact zz189
         |true=>
          have u0:=HUX.out.c0;have u1:=HUX.out.c1;have u2:=HUX.out.c2;have u3:=HUX.out.c3;have u4:=HUX.out.c4;have u5:=HUX.out.c5;by_cases hjk:j<k
          ·have E:=zzH (HNO.out (.inr (zzT hjk)))
           have hjk':(j:Int)<(k:Int):=by omega
           go_wp2_with (first|(go_at_call 121;refine(hn _).mono ?_;rintro e w1 ⟨rfl,rfl⟩)|(go_at_call 122;first|((with_reducible refine(hw1 _).mono ?_);rintro e w1 ⟨rfl,rfl⟩)|((with_reducible refine(hw2 _).mono ?_);rintro e w1 ⟨rfl,rfl⟩)));refine HFI.out.mono ?_;rintro e w5 ⟨rfl,hb5⟩;go_wp2;go_ret;exact⟨zn E.out.symm,by rw [HBZ.out];exact HFIN.out _ (HBQ.out.trans ((zd HBX.out hb5).mono HBQ.out.size))⟩
          ·have HK2:=zzH (HYES.out rfl (zzD hjk))
           have hjk':(k:Int)<=(j:Int):=by omega
           go_wp2_with (first|(go_at_call 121;refine(hn _).mono ?_;rintro e w1 ⟨rfl,rfl⟩)|(go_at_call 122;first|((with_reducible refine(hw1 _).mono ?_);rintro e w1 ⟨rfl,rfl⟩)|((with_reducible refine(hw2 _).mono ?_);rintro e w1 ⟨rfl,rfl⟩)));refine HFI.out.mono ?_;rintro e w5 ⟨rfl,hb5⟩;go_wp2_with fail;go_roundw
           case rel=>exact⟨k+1,by omega,by go_num,HK2,HBQ.out.trans ((zd HBX.out hb5).mono HBQ.out.size)⟩
           case measure=>simp [intOf];omega
      ·have HE3:Hid (zM (f+1) u=u.funs.all (zct ((u.code.length:Int)-1))):=zzH (by rw [HE2.out,zmL (fun j h=>HK.out j h (by omega)),zzq15])
       have HG0:Hid (u.funs.all (zct ((u.code.length:Int)-1))=(u.funs.drop 0).all (zct ((u.code.length:Int)-1))):=zzH rfl;clear HE2 HK hur hBq;obtain⟨wo,rfl⟩: ∃wo:World,wo=wr:=⟨_,rfl⟩;go_wp2_with fail;go_loopw [8,9] (fun i _ wq=> ∃k:Nat,k<=u.funs.length/\i= .int .i64 k/\Hid (u.funs.all (zct ((u.code.length:Int)-1))=(u.funs.drop k).all (zct ((u.code.length:Int)-1)))/\Below W.heap.size W wq) (fun i _ _=>u.funs.length-(intOf i).toNat)
       case atStart=>exact⟨0,zzZ _,rfl,HG0,HBQ.out⟩
       case round=>
        obtain⟨k,hk,rfl,HK,hBq⟩:=hrel;rename World=>wr
        clear c3 c4 c5 hlu HBQ HG0;have hur:=HU.out.below hBq;have HBQ:=zzH hBq;have c4:=hur.c4;have c5:=hur.c5;have hlu:=hur.lt;by_cases hlt:k<u.funs.length
        ·obtain⟨b1,off1,hfo,hb1,s0,s1,s2,t0,t1,t2⟩:=(HP.out.funs.mono hBq fun _ _ h=>h).fn hlt
         subst hfo;have HSTP:Hid ((u.funs.drop k).all (zct ((u.code.length:Int)-1))=((wi u.funs[k].arity 0 16&&(wi u.funs[k].free 0 200&&wi u.funs[k].entry 0 ((u.code.length:Int)-1)))&&(u.funs.drop (k+1)).all (zct ((u.code.length:Int)-1)))):=zzH (by rw [List.drop_eq_getElem_cons hlt,List.all_cons];rfl);have hbxb:Below wr.heap.size wr (wr.alloc (.cells #[.int .i64 u.funs[k].arity,.int .i64 u.funs[k].free,.int .i64 u.funs[k].entry] 59)):=zzE _ _;have hwr1:=zzV u.code.length (by omega)
         have hw1:=fun wx=>zK u.funs[k].arity 0 16 wx
         have hw2:=fun wx=>zK u.funs[k].free 0 200 wx
         have hw3:=fun wx=>zK u.funs[k].entry 0 ((u.code.length:Int)-1) wx
         have HBX:=zzH hbxb;clear hbxb hur hBq t0 t1 t2;generalize wi u.funs[k].arity 0 16=ab at *;generalize wi u.funs[k].free 0 200=fb at *;generalize wi u.funs[k].entry 0 ((u.code.length:Int)-1)=eb at *;generalize u.funs[k]=fn at *;obtain⟨far,ffr,fen⟩:=fn;simp only at *
         cases ab with
         |false=>
          exact zz188
         |true=>
          cases fb with
          |false=>
           exact zz188
          |true=>
           cases eb with
           |false=>
            exact zz188
           |true=>
            have HK2:Hid (u.funs.all (zct ((u.code.length:Int)-1))=(u.funs.drop (k+1)).all (zct ((u.code.length:Int)-1))):=zzH (by rw [HK.out,HSTP.out];rfl);go_wp2_with (go_at_call 122;first|((with_reducible refine(hw1 _).mono ?_);rintro e w1 ⟨rfl,rfl⟩)|((with_reducible refine(hw2 _).mono ?_);rintro e w1 ⟨rfl,rfl⟩)|((with_reducible refine(hw3 _).mono ?_);rintro e w1 ⟨rfl,rfl⟩));go_roundw
            case rel=>exact⟨k+1,by omega,by go_num,HK2,HBQ.out.trans (HBX.out.mono HBQ.out.size)⟩
            case measure=>simp [intOf];omega
        ·have E:Hid (zM (f+1) u=true):=zzH (by rw [HE3.out,HK.out,zzq8 (by omega)];rfl)
         clear hur hBq;go_wp2;go_ret;exact⟨zn E.out.symm,by rw [HBZ.out];exact HFIN.out _ HBQ.out⟩
def zeS (nl:Nat) (x:RIns) (a:Bool):Bool:=if a=true then zbi nl x.dst&& !(x.dst.kind==3)else zdL x.dst
def zh8 (x:RIns) (r:RRow):Bool:=(r.c||x.n==0)&&((r.d||x.name.toList.isEmpty)&&((r.e||(x.cases.length:Int)==0)&&((r.f||(x.segs.length:Int)==0)&&(r.g||x.to==0))))
def zeH (nl:Nat) (x:RIns) (r:RRow):Bool:=zeS nl x r.a&&((wi x.src.length r.lo r.hi&&((r.h||x.live==0)&&wi x.live 0 256))&&(x.src.all (zbi nl)&&zh8 x r))
theorem zts (n:Nat):((n:Int)==0)=(n==0):=by rw [Bool.eq_iff_iff,beq_iff_eq,beq_iff_eq];omega
theorem zj3 (nl:Nat) (x:RIns) (h lo hi:Nat):zeH nl x ⟨zm h 1,zm h 2,zm h 4,zm h 8,zm h 16,zm h 32,zm h 64,zm h 128,lo,hi⟩=zQ nl x h lo hi:=by
 unfold zeH zQ zh8 zeS zfi zdL;simp only [zts];have e:(x.dst.kind==3)=decide (x.dst.kind=3):=by rw [Bool.eq_iff_iff,beq_iff_eq,zzq7]
 rw [e]
 have e2:(if zm h 1=true then !decide (x.dst.kind=3)&&zbi nl x.dst else decide (x.dst.kind=0)&&decide (x.dst.n=0))=(if zm h 1=true then zbi nl x.dst&& !decide (x.dst.kind=3)else decide (x.dst.kind=0)&&decide (x.dst.n=0)):=by
  split
  ·exact Bool.and_comm _ _
  ·rfl
 rw [e2];generalize(if zm h 1=true then zbi nl x.dst&& !decide (x.dst.kind=3)else decide (x.dst.kind=0)&&decide (x.dst.n=0))=q0
 ac_rfl
theorem zlU (w:World) (u:RUnit) (lo fo go co:zzA) (lc fc gc cc:Nat) (x:RIns) (so co' go':zzA) (sc cc' gc':Nat) (cs:Array Value):UBox (((w.alloc (.cells #[.string u.mdl,.int .i64 u.vsn,.slice lo u.lits.length lc,.slice fo u.funcs.length fc,.slice go u.funs.length gc,.slice co u.code.length cc] 27)).alloc (.cells #[.int .i64 x.op,.int .i64 x.dst.kind,.int .i64 x.dst.n,.slice so x.src.length sc,.int .i64 x.to,.int .i64 x.n,.int .i64 x.live,.string x.name,.slice co' x.cases.length cc',.slice go' x.segs.length gc'] 36)).alloc (.cells cs 148)) w.heap.size u lo fo go co lc fc gc cc/\XBox (((w.alloc (.cells #[.string u.mdl,.int .i64 u.vsn,.slice lo u.lits.length lc,.slice fo u.funcs.length fc,.slice go u.funs.length gc,.slice co u.code.length cc] 27)).alloc (.cells #[.int .i64 x.op,.int .i64 x.dst.kind,.int .i64 x.dst.n,.slice so x.src.length sc,.int .i64 x.to,.int .i64 x.n,.int .i64 x.live,.string x.name,.slice co' x.cases.length cc',.slice go' x.segs.length gc'] 36)).alloc (.cells cs 148)) (w.heap.size+1) x so co' go' sc cc' gc' /\
  (((w.alloc (.cells #[.string u.mdl,.int .i64 u.vsn,.slice lo u.lits.length lc,.slice fo u.funcs.length fc,.slice go u.funs.length gc,.slice co u.code.length cc] 27)).alloc (.cells #[.int .i64 x.op,.int .i64 x.dst.kind,.int .i64 x.dst.n,.slice so x.src.length sc,.int .i64 x.to,.int .i64 x.n,.int .i64 x.live,.string x.name,.slice co' x.cases.length cc',.slice go' x.segs.length gc'] 36)).alloc (.cells cs 148)).heap[w.heap.size+1+1]?=some (.cells cs 148 (0,0))/\Below w.heap.size w (((w.alloc (.cells #[.string u.mdl,.int .i64 u.vsn,.slice lo u.lits.length lc,.slice fo u.funcs.length fc,.slice go u.funs.length gc,.slice co u.code.length cc] 27)).alloc (.cells #[.int .i64 x.op,.int .i64 x.dst.kind,.int .i64 x.dst.n,.slice so x.src.length sc,.int .i64 x.to,.int .i64 x.n,.int .i64 x.live,.string x.name,.slice co' x.cases.length cc',.slice go' x.segs.length gc'] 36)).alloc (.cells cs 148)):=by
 obtain⟨h1,h2,h3⟩:=zbC w u lo fo go co lc fc gc cc x so co' go' sc cc' gc';have s:((w.alloc (.cells (zzu u lo lc fo fc go gc co cc) 27)).alloc (.cells (zzi x so sc co' cc' go' gc') 36)).heap.size=w.heap.size+1+1:=by simp
 have hb:=(zzR ((w.alloc (.cells (zzu u lo lc fo fc go gc co cc) 27)).alloc (.cells (zzi x so sc co' cc' go' gc') 36)).heap.size ((w.alloc (.cells (zzu u lo lc fo fc go gc co cc) 27)).alloc (.cells (zzi x so sc co' cc' go' gc') 36))).alloc (zzL _) (.cells cs 148);refine⟨h1.below hb,h2.below hb,?_,h3.trans (hb.mono (by rw [s];omega))⟩;rw [<-s];exact zzF _ _
theorem zlN (u:RUnit) (lo fo go co:zzA) (lc fc gc cc:Nat) (x:RIns) (so co' go':zzA) (sc cc' gc':Nat) (r:RRow) (w:World) (hl:u.lits.length<=9223372036854775807) (hsrc:SlAt w 2 zdY so x.src) (hdk:I64 x.dst.kind/\I64 x.dst.n) (r2:x.src.length<=9223372036854775807) (r3:x.cases.length<=9223372036854775807) (r4:x.segs.length<=9223372036854775807):
  Calls Tryz.prog 82 #[.agg (zzu u lo lc fo fc go gc co cc),.agg (zzi x so sc co' cc' go' gc'),.agg r.val] w fun e w'=>e= .returned (.bool (zeH u.lits.length x r))/\Below w.heap.size w w':=by
 unfold zzi zzu;obtain⟨a,b,c,d,e,f,g,h,l1,l2⟩:=r;have HF:Hid (zeH u.lits.length x ⟨a,b,c,d,e,f,g,h,l1,l2⟩=(zeS u.lits.length x a&&((wi x.src.length l1 l2&&((h||x.live==0)&&wi x.live 0 256))&&(x.src.all (zbi u.lits.length)&&zh8 x ⟨a,b,c,d,e,f,g,h,l1,l2⟩)))):=zzH rfl;have HR:Hid (zh8 x ⟨a,b,c,d,e,f,g,h,l1,l2⟩=((c||x.n==0)&&((d||x.name.toList.isEmpty)&&((e||(x.cases.length:Int)==0)&&((f||(x.segs.length:Int)==0)&&(g||x.to==0)))))):=zzH rfl;have HD1:Hid (zeS u.lits.length x true=(zbi u.lits.length x.dst&& !(x.dst.kind==3))):=zzH rfl;have HD2:Hid (zeS u.lits.length x false=zdL x.dst):=zzH rfl;have HSR:=zzH hsrc;clear hsrc;generalize zeH u.lits.length x ⟨a,b,c,d,e,f,g,h,l1,l2⟩=fb at *;generalize zh8 x ⟨a,b,c,d,e,f,g,h,l1,l2⟩=rb at *;go_in;go_upto_region 1 with fail;obtain⟨hU,hX,hR,hBW⟩:=zlU w u lo fo go co lc fc gc cc x so co' go' sc cc' gc' #[.bool a,.bool b,.bool c,.bool d,.bool e,.bool f,.bool g,.bool h,.int .i64 l1,.int .i64 l2];have HBW:=zzH hBW;clear hBW;simp only [RRow.val]at hR ⊢;generalize((w.alloc (.cells (zzu u lo lc fo fc go gc co cc) 27)).alloc (.cells (zzi x so sc co' cc' go' gc') 36)).alloc (.cells #[.bool a,.bool b,.bool c,.bool d,.bool e,.bool f,.bool g,.bool h,.int .i64 l1,.int .i64 l2] 148)=W at *;generalize hBz:w.heap.size=B at *;have HBZ:=zzH hBz;clear hBz;refine zzK3 hU hX hR fun HU HX HRB=>?_;clear hU hX hR;have hU1:=HU.out.below (zzR W.heap.size W);have hX1:=HX.out.below (zzR W.heap.size W);have hR1:=((zzR W.heap.size W).block _ (zc HRB.out)).trans HRB.out;have b0:=hU1.c0;have b1:=hU1.c1;have b2:=hU1.c2;have b3:=hU1.c3;have b4:=hU1.c4;have b5:=hU1.c5;have c0:=hX1.c0;have c1:=hX1.c1;have c2:=hX1.c2;have c3:=hX1.c3;have c4:=hX1.c4;have c5:=hX1.c5;have c6:=hX1.c6;have c7:=hX1.c7;have c8:=hX1.c8;have c9:=hX1.c9;obtain ⟨q0,q1,q2,q3,q4,q5,q6,q7,q8,q9⟩:=zzc10 hR1;have hlu:=hU1.lt;have hlx:=hX1.lt;have hlr:=zc hR1;clear hU1 hX1 hR1;go_cut [33] (fun sv wx=> ∃v:Bool,sv= .bool v/\Hid (zeS u.lits.length x a= !v)/\Hid (Below W.heap.size W wx))
 case first=>
  cases a with
  |true=>
   have hop:=zeU u lo fo go co lc fc gc cc x.dst W hl hdk
   cases hq:zbi u.lits.length x.dst with
   |false=>
    have E:Hid (zeS u.lits.length x true= !true):=zzH (by rw [HD1.out,hq];rfl);rw [hq]at hop;exact zz191
   |true=>
    rw [hq]at hop
    cases hk:(x.dst.kind==3)with
    |true=>
     have E:Hid (zeS u.lits.length x true= !true):=zzH (by rw [HD1.out,hq,hk];rfl);exact zz191
    |false=>
     have E:Hid (zeS u.lits.length x true= !false):=zzH (by rw [HD1.out,hq,hk];rfl);clear hq;go_wp2_with fail;refine hop.mono ?_;rintro e9 w1 ⟨rfl,hb1⟩;clear b0 b1 b2 b3 b4 b5 c0 c1 c2 c3 c4 c5 c6 c7 c8 c9 q0 q1 q2 q3 q4 q5 q6 q7 q8 q9 hlu hlx hlr;have hU1:=HU.out.below hb1;have hX1:=HX.out.below hb1;have hR1:=(hb1.block _ (zc HRB.out)).trans HRB.out;have b0:=hU1.c0;have b1:=hU1.c1;have b2:=hU1.c2;have b3:=hU1.c3;have b4:=hU1.c4;have b5:=hU1.c5;have c0:=hX1.c0;have c1:=hX1.c1;have c2:=hX1.c2;have c3:=hX1.c3;have c4:=hX1.c4;have c5:=hX1.c5;have c6:=hX1.c6;have c7:=hX1.c7;have c8:=hX1.c8;have c9:=hX1.c9;obtain ⟨q0,q1,q2,q3,q4,q5,q6,q7,q8,q9⟩:=zzc10 hR1;have hlu:=hU1.lt;have hlx:=hX1.lt;have hlr:=zc hR1;clear hU1 hX1 hR1;go_wp2_with fail;go_meet
     case rel=>exact⟨false,rfl,E,zzH hb1⟩
  |false=>
   have hno:=zhp x.dst W
   cases hq:zdL x.dst with
   |false=>
    have E:Hid (zeS u.lits.length x false= !true):=zzH (by rw [HD2.out,hq];rfl);rw [hq]at hno;clear hq;go_wp2_with fail;refine hno.mono ?_;rintro e9 w1 ⟨rfl,hb1⟩;go_wp2_with fail;go_meet
    case rel=>exact⟨true,rfl,E,zzH hb1⟩
   |true=>
    have E:Hid (zeS u.lits.length x false= !false):=zzH (by rw [HD2.out,hq];rfl);rw [hq]at hno;clear hq;go_wp2_with fail;refine hno.mono ?_;rintro e9 w1 ⟨rfl,hb1⟩;go_wp2_with fail;go_meet
    case rel=>exact⟨false,rfl,E,zzH hb1⟩
 case rest=>
  obtain⟨v,rfl,HV,HB1⟩:=hcut;clear b0 b1 b2 b3 b4 b5 c0 c1 c2 c3 c4 c5 c6 c7 c8 c9 q0 q1 q2 q3 q4 q5 q6 q7 q8 q9 hlu hlx hlr;have hl1:=HB1.out.size;have HFIN:Hid (∀wx,Below W.heap.size W wx->Below B w wx):=zzH (fun wx hh=>HBW.out.trans (hh.mono (by have:=HBW.out.size;have:=HBZ.out;omega)))
  cases v with
  |true=>
   have E:Hid (fb=false):=zzH (by rw [HF.out,HV.out];rfl);go_wp2;go_ret;exact⟨zn E.out.symm,by rw [HBZ.out];exact HFIN.out _ HB1.out⟩
  |false=>
   have HF1:Hid (fb=((wi x.src.length l1 l2&&((h||x.live==0)&&wi x.live 0 256))&&(x.src.all (zbi u.lits.length)&&rb))):=zzH (by rw [HF.out,HV.out];rfl);clear HF HV;go_upto_region 3 with fail;have hU1:=HU.out.below HB1.out;have hX1:=HX.out.below HB1.out;have hR1:=(HB1.out.block _ (zc HRB.out)).trans HRB.out;have b0:=hU1.c0;have b1:=hU1.c1;have b2:=hU1.c2;have b3:=hU1.c3;have b4:=hU1.c4;have b5:=hU1.c5;have c0:=hX1.c0;have c1:=hX1.c1;have c2:=hX1.c2;have c3:=hX1.c3;have c4:=hX1.c4;have c5:=hX1.c5;have c6:=hX1.c6;have c7:=hX1.c7;have c8:=hX1.c8;have c9:=hX1.c9;obtain ⟨q0,q1,q2,q3,q4,q5,q6,q7,q8,q9⟩:=zzc10 hR1;have hlu:=hU1.lt;have hlx:=hX1.lt;have hlr:=zc hR1;clear hU1 hX1 hR1;go_cut [58] (fun sv wx=> ∃v:Bool,sv= .bool v/\Hid ((wi x.src.length l1 l2&&((h||x.live==0)&&wi x.live 0 256))= !v)/\wc=wx)
   case first=>
    have hw1:=fun wx=>zK x.src.length l1 l2 wx
    have hw2:=fun wx=>zK x.live 0 256 wx
    have HW1:=zzH hw1;have HW2:=zzH hw2;clear hw1 hw2
    cases hv1:wi x.src.length l1 l2 with
    |false=>
     rw [hv1]at HW1;go_wp2_with fail;refine(HW1.out _).mono ?_;rintro e9 w1 ⟨rfl,rfl⟩;go_wp2_with fail;go_meet
     case rel=>exact⟨true,rfl,zzH (by rw [hv1];rfl),rfl⟩
    |true=>
     rw [hv1]at HW1
     cases h with
     |true=>
      cases hv2:wi x.live 0 256 with
      |false=>
       rw [hv2]at HW2;go_wp2_with fail;refine(HW1.out _).mono ?_;rintro e9 w1 ⟨rfl,rfl⟩;go_wp2_with fail;refine(HW2.out _).mono ?_;rintro e9 w1 ⟨rfl,rfl⟩;go_wp2_with fail;go_meet
       case rel=>exact⟨true,rfl,zzH (by rw [hv1,hv2];rfl),rfl⟩
      |true=>
       rw [hv2]at HW2;go_wp2_with fail;refine(HW1.out _).mono ?_;rintro e9 w1 ⟨rfl,rfl⟩;go_wp2_with fail;refine(HW2.out _).mono ?_;rintro e9 w1 ⟨rfl,rfl⟩;go_wp2_with fail;go_meet
       case rel=>exact⟨false,rfl,zzH (by rw [hv1,hv2];rfl),rfl⟩
     |false=>
      cases t0:(x.live==0)with
      |false=>
       have t0' : (x.live != 0) = true := by rw [bne_iff_ne]; exact zzB.1 t0
       go_wp2_with fail;refine(HW1.out _).mono ?_;rintro e9 w1 ⟨rfl,rfl⟩;go_wp2_with fail;go_meet
       case rel=>exact⟨true,rfl,zzH (by rw [hv1,t0];rfl),rfl⟩
      |true=>
       have t0' : (x.live != 0) = false := by rw [bne_eq_false_iff_eq]; exact eq_of_beq t0
       cases hv2:wi x.live 0 256 with
       |false=>
        rw [hv2]at HW2;go_wp2_with fail;refine(HW1.out _).mono ?_;rintro e9 w1 ⟨rfl,rfl⟩;go_wp2_with fail;refine(HW2.out _).mono ?_;rintro e9 w1 ⟨rfl,rfl⟩;go_wp2_with fail;go_meet
        case rel=>exact⟨true,rfl,zzH (by rw [hv1,hv2,t0];rfl),rfl⟩
       |true=>
        rw [hv2]at HW2;go_wp2_with fail;refine(HW1.out _).mono ?_;rintro e9 w1 ⟨rfl,rfl⟩;go_wp2_with fail;refine(HW2.out _).mono ?_;rintro e9 w1 ⟨rfl,rfl⟩;go_wp2_with fail;go_meet
        case rel=>exact⟨false,rfl,zzH (by rw [hv1,hv2,t0];rfl),rfl⟩
   case rest=>
    obtain⟨v,rfl,HV,rfl⟩:=hcut
    cases v with
    |true=>
     have E:Hid (fb=false):=zzH (by rw [HF1.out,HV.out];rfl);go_wp2;go_ret;exact⟨zn E.out.symm,by rw [HBZ.out];exact HFIN.out _ HB1.out⟩
    |false=>
     have HF2:Hid (fb=(x.src.all (zbi u.lits.length)&&rb)):=zzH (by rw [HF1.out,HV.out];rfl);clear HF1 HV;go_wp2_with fail;clear b0 b1 b2 b3 b4 b5 c0 c1 c2 c3 c4 c5 c6 c7 c8 c9 q0 q1 q2 q3 q4 q5 q6 q7 q8 q9 hlu hlx hlr;go_loopw [7] (fun iv wr=> ∃k:Nat,k<=x.src.length/\iv= .int .i64 k/\Hid (∀j (hj:j<x.src.length),j<k->zbi u.lits.length x.src[j]=true)/\Hid (Below W.heap.size W wr)) (fun iv _=>x.src.length-(intOf iv).toNat)
     case atStart=>exact⟨0,zzZ _,rfl,zzH (fun j _ hj=>absurd hj (zzC _)),HB1⟩
     case round=>
      obtain⟨k,hk,rfl,HK,HBk⟩:=hrel;rename World=>wr
      have hU1:=HU.out.below HBk.out;have hX1:=HX.out.below HBk.out;have hR1:=(HBk.out.block _ (zc HRB.out)).trans HRB.out;have b0:=hU1.c0;have b1:=hU1.c1;have b2:=hU1.c2;have b3:=hU1.c3;have b4:=hU1.c4;have b5:=hU1.c5;have c0:=hX1.c0;have c1:=hX1.c1;have c2:=hX1.c2;have c3:=hX1.c3;have c4:=hX1.c4;have c5:=hX1.c5;have c6:=hX1.c6;have c7:=hX1.c7;have c8:=hX1.c8;have c9:=hX1.c9;obtain ⟨q0,q1,q2,q3,q4,q5,q6,q7,q8,q9⟩:=zzc10 hR1;have hlu:=hU1.lt;have hlx:=hX1.lt;have hlr:=zc hR1;clear hU1 hX1 hR1;by_cases hlt:k<x.src.length
      ·obtain⟨b9,off,hao,hb9,p0,p1,i0,i1⟩:=(HSR.out.mono (by rw [HBZ.out];exact HFIN.out _ HBk.out) fun _ _ hh=>hh).arg hlt
       subst hao
       have HE:Hid (zbi u.lits.length x.src[k]=false->fb=false):=zzH (fun hf=>by
        have:x.src.all (zbi u.lits.length)=false:=by
         rw [List.all_eq_false];exact⟨x.src[k],zzM hlt,by rw [hf];decide⟩
        rw [HF2.out,this];rfl)
       have HN:Hid (zbi u.lits.length x.src[k]=true-> ∀j (hj:j<x.src.length),j<k+1->zbi u.lits.length x.src[j]=true):=zzH (fun hne j hj hjk=>by
        rcases Nat.eq_or_lt_of_le (Nat.le_of_lt_succ hjk)with e9|e9
        ·subst e9;exact hne
        ·exact HK.out j hj e9)
       generalize x.src[k]=ar at *;have hop:=fun wx=>zeU u lo fo go co lc fc gc cc ar wx hl ⟨i0,i1⟩
       have hdr:Below wr.heap.size wr wr.drew:=(zzR _ _).drew
       cases hq:zbi u.lits.length ar with
       |false=>
        have E:=zzH (HE.out hq);rw [hq]at hop;have HOP:=zzH hop;clear hq hop HE HN;go_wp2_with fail;have HS0:=zzH (show(fun w'=>w'.cell? ⟨B,0,none⟩=some (.string u.mdl)/\w'.cell? ⟨B,1,none⟩=some (.int .i64 u.vsn)/\w'.cell? ⟨B,2,none⟩=some (.slice lo u.lits.length lc)/\w'.cell? ⟨B,3,none⟩=some (.slice fo u.funcs.length fc)/\w'.cell? ⟨B,4,none⟩=some (.slice go u.funs.length gc)/\w'.cell? ⟨B,5,none⟩=some (.slice co u.code.length cc)/\w'.cell? ⟨B+1,3,none⟩=some (.slice (some ⟨b9,off,none⟩) x.src.length sc)/\w'.cell? ⟨b9,off+k*2,none⟩=some (.int .i64 ar.kind)/\w'.cell? ⟨b9,off+k*2+1,none⟩=some (.int .i64 ar.n)) wr.drew from⟨(hdr.cell (p:=⟨B,0,none⟩) hlu).trans b0,(hdr.cell (p:=⟨B,1,none⟩) hlu).trans b1,(hdr.cell (p:=⟨B,2,none⟩) hlu).trans b2,(hdr.cell (p:=⟨B,3,none⟩) hlu).trans b3,(hdr.cell (p:=⟨B,4,none⟩) hlu).trans b4,(hdr.cell (p:=⟨B,5,none⟩) hlu).trans b5,(hdr.cell (p:=⟨B+1,3,none⟩) hlx).trans c3,(hdr.cell (p:=⟨b9,off+k*2,none⟩) hb9).trans p0,(hdr.cell (p:=⟨b9,off+k*2+1,none⟩) hb9).trans p1⟩)
        first|go_region_held3 (fun w'=>w'.cell? ⟨B,0,none⟩=some (.string u.mdl)/\w'.cell? ⟨B,1,none⟩=some (.int .i64 u.vsn)/\w'.cell? ⟨B,2,none⟩=some (.slice lo u.lits.length lc)/\w'.cell? ⟨B,3,none⟩=some (.slice fo u.funcs.length fc)/\w'.cell? ⟨B,4,none⟩=some (.slice go u.funs.length gc)/\w'.cell? ⟨B,5,none⟩=some (.slice co u.code.length cc)/\w'.cell? ⟨B+1,3,none⟩=some (.slice (some ⟨b9,off,none⟩) x.src.length sc)/\w'.cell? ⟨b9,off+k*2,none⟩=some (.int .i64 ar.kind)/\w'.cell? ⟨b9,off+k*2+1,none⟩=some (.int .i64 ar.n)) (first|with_reducible exact HS0.out|with_reducible exact HS5.out) ((go_at_call 126;refine(HOP.out _).mono ?_;rintro e9 w5 ⟨rfl,hb5⟩;have HS5:=zzH (show(fun w'=>w'.cell? ⟨B,0,none⟩=some (.string u.mdl)/\w'.cell? ⟨B,1,none⟩=some (.int .i64 u.vsn)/\w'.cell? ⟨B,2,none⟩=some (.slice lo u.lits.length lc)/\w'.cell? ⟨B,3,none⟩=some (.slice fo u.funcs.length fc)/\w'.cell? ⟨B,4,none⟩=some (.slice go u.funs.length gc)/\w'.cell? ⟨B,5,none⟩=some (.slice co u.code.length cc)/\w'.cell? ⟨B+1,3,none⟩=some (.slice (some ⟨b9,off,none⟩) x.src.length sc)/\w'.cell? ⟨b9,off+k*2,none⟩=some (.int .i64 ar.kind)/\w'.cell? ⟨b9,off+k*2+1,none⟩=some (.int .i64 ar.n)) w5 from⟨((zd hdr hb5).cell (p:=⟨B,0,none⟩) hlu).trans b0,((zd hdr hb5).cell (p:=⟨B,1,none⟩) hlu).trans b1,((zd hdr hb5).cell (p:=⟨B,2,none⟩) hlu).trans b2,((zd hdr hb5).cell (p:=⟨B,3,none⟩) hlu).trans b3,((zd hdr hb5).cell (p:=⟨B,4,none⟩) hlu).trans b4,((zd hdr hb5).cell (p:=⟨B,5,none⟩) hlu).trans b5,((zd hdr hb5).cell (p:=⟨B+1,3,none⟩) hlx).trans c3,((zd hdr hb5).cell (p:=⟨b9,off+k*2,none⟩) hb9).trans p0,((zd hdr hb5).cell (p:=⟨b9,off+k*2+1,none⟩) hb9).trans p1⟩)))|fail
        go_wp2;go_ret;exact⟨zn E.out.symm,by rw [HBZ.out];exact HFIN.out _ (zd HBk.out (zd hdr hb5))⟩
       |true=>
        have HN2:=zzH (HN.out hq);rw [hq]at hop;have HOP:=zzH hop;clear hq hop HE HN;go_wp2_with fail;have HS0:=zzH (show(fun w'=>w'.cell? ⟨B,0,none⟩=some (.string u.mdl)/\w'.cell? ⟨B,1,none⟩=some (.int .i64 u.vsn)/\w'.cell? ⟨B,2,none⟩=some (.slice lo u.lits.length lc)/\w'.cell? ⟨B,3,none⟩=some (.slice fo u.funcs.length fc)/\w'.cell? ⟨B,4,none⟩=some (.slice go u.funs.length gc)/\w'.cell? ⟨B,5,none⟩=some (.slice co u.code.length cc)/\w'.cell? ⟨B+1,3,none⟩=some (.slice (some ⟨b9,off,none⟩) x.src.length sc)/\w'.cell? ⟨b9,off+k*2,none⟩=some (.int .i64 ar.kind)/\w'.cell? ⟨b9,off+k*2+1,none⟩=some (.int .i64 ar.n)) wr.drew from⟨(hdr.cell (p:=⟨B,0,none⟩) hlu).trans b0,(hdr.cell (p:=⟨B,1,none⟩) hlu).trans b1,(hdr.cell (p:=⟨B,2,none⟩) hlu).trans b2,(hdr.cell (p:=⟨B,3,none⟩) hlu).trans b3,(hdr.cell (p:=⟨B,4,none⟩) hlu).trans b4,(hdr.cell (p:=⟨B,5,none⟩) hlu).trans b5,(hdr.cell (p:=⟨B+1,3,none⟩) hlx).trans c3,(hdr.cell (p:=⟨b9,off+k*2,none⟩) hb9).trans p0,(hdr.cell (p:=⟨b9,off+k*2+1,none⟩) hb9).trans p1⟩)
        first|go_region_held3 (fun w'=>w'.cell? ⟨B,0,none⟩=some (.string u.mdl)/\w'.cell? ⟨B,1,none⟩=some (.int .i64 u.vsn)/\w'.cell? ⟨B,2,none⟩=some (.slice lo u.lits.length lc)/\w'.cell? ⟨B,3,none⟩=some (.slice fo u.funcs.length fc)/\w'.cell? ⟨B,4,none⟩=some (.slice go u.funs.length gc)/\w'.cell? ⟨B,5,none⟩=some (.slice co u.code.length cc)/\w'.cell? ⟨B+1,3,none⟩=some (.slice (some ⟨b9,off,none⟩) x.src.length sc)/\w'.cell? ⟨b9,off+k*2,none⟩=some (.int .i64 ar.kind)/\w'.cell? ⟨b9,off+k*2+1,none⟩=some (.int .i64 ar.n)) (first|with_reducible exact HS0.out|with_reducible exact HS5.out) ((go_at_call 126;refine(HOP.out _).mono ?_;rintro e9 w5 ⟨rfl,hb5⟩;have HS5:=zzH (show(fun w'=>w'.cell? ⟨B,0,none⟩=some (.string u.mdl)/\w'.cell? ⟨B,1,none⟩=some (.int .i64 u.vsn)/\w'.cell? ⟨B,2,none⟩=some (.slice lo u.lits.length lc)/\w'.cell? ⟨B,3,none⟩=some (.slice fo u.funcs.length fc)/\w'.cell? ⟨B,4,none⟩=some (.slice go u.funs.length gc)/\w'.cell? ⟨B,5,none⟩=some (.slice co u.code.length cc)/\w'.cell? ⟨B+1,3,none⟩=some (.slice (some ⟨b9,off,none⟩) x.src.length sc)/\w'.cell? ⟨b9,off+k*2,none⟩=some (.int .i64 ar.kind)/\w'.cell? ⟨b9,off+k*2+1,none⟩=some (.int .i64 ar.n)) w5 from⟨((zd hdr hb5).cell (p:=⟨B,0,none⟩) hlu).trans b0,((zd hdr hb5).cell (p:=⟨B,1,none⟩) hlu).trans b1,((zd hdr hb5).cell (p:=⟨B,2,none⟩) hlu).trans b2,((zd hdr hb5).cell (p:=⟨B,3,none⟩) hlu).trans b3,((zd hdr hb5).cell (p:=⟨B,4,none⟩) hlu).trans b4,((zd hdr hb5).cell (p:=⟨B,5,none⟩) hlu).trans b5,((zd hdr hb5).cell (p:=⟨B+1,3,none⟩) hlx).trans c3,((zd hdr hb5).cell (p:=⟨b9,off+k*2,none⟩) hb9).trans p0,((zd hdr hb5).cell (p:=⟨b9,off+k*2+1,none⟩) hb9).trans p1⟩)))|fail
        go_wp2_with fail;go_roundw
        case rel=>exact⟨k+1,by omega,by go_num,HN2,zzH (zd HBk.out (zd hdr hb5))⟩
        case measure=>simp [intOf];omega
      ·have HALL:Hid (x.src.all (zbi u.lits.length)=true):=zzH (by
        rw [List.all_eq_true];intro ar ha;obtain⟨j,hj,rfl⟩:=List.getElem_of_mem ha;exact HK.out j hj (by omega))
       have HF3:Hid (fb=((c||x.n==0)&&((d||x.name.toList.isEmpty)&&((e||(x.cases.length:Int)==0)&&((f||(x.segs.length:Int)==0)&&(g||x.to==0)))))):=zzH (by rw [HF2.out,HALL.out,HR.out];rfl);clear HALL HF2 HR
       cases c with
       |true=>
        cases d with
        |true=>
         cases e with
         |true=>
          cases f with
          |true=>
           cases g with
           |true=>
            have E:Hid (fb=true):=zzH (by rw [HF3.out];simp only [zzX1]);exact zz192
           |false=>
            cases z4:(x.to==0)with
            |false=>
             have E:Hid (fb=false):=zzH (by rw [HF3.out,z4];simp only [zzX2]);exact zz192
            |true=>
             have E:Hid (fb=true):=zzH (by rw [HF3.out,z4];simp only [zzX1]);exact zz192
          |false=>
           cases z3:((x.segs.length:Int)==0)with
           |false=>
            have E:Hid (fb=false):=zzH (by rw [HF3.out,z3];simp only [zzX2]);exact zz192
           |true=>
            cases g with
            |true=>
             have E:Hid (fb=true):=zzH (by rw [HF3.out,z3];simp only [zzX1]);exact zz192
            |false=>
             cases z4:(x.to==0)with
             |false=>
              have E:Hid (fb=false):=zzH (by rw [HF3.out,z3,z4];simp only [zzX2]);exact zz192
             |true=>
              have E:Hid (fb=true):=zzH (by rw [HF3.out,z3,z4];simp only [zzX1]);exact zz192
         |false=>
          cases z2:((x.cases.length:Int)==0)with
          |false=>
           have E:Hid (fb=false):=zzH (by rw [HF3.out,z2];simp only [zzX2]);exact zz192
          |true=>
           cases f with
           |true=>
            cases g with
            |true=>
             have E:Hid (fb=true):=zzH (by rw [HF3.out,z2];simp only [zzX1]);exact zz192
            |false=>
             cases z4:(x.to==0)with
             |false=>
              have E:Hid (fb=false):=zzH (by rw [HF3.out,z2,z4];simp only [zzX2]);exact zz192
             |true=>
              have E:Hid (fb=true):=zzH (by rw [HF3.out,z2,z4];simp only [zzX1]);exact zz192
           |false=>
            cases z3:((x.segs.length:Int)==0)with
            |false=>
             have E:Hid (fb=false):=zzH (by rw [HF3.out,z2,z3];simp only [zzX2]);exact zz192
            |true=>
             cases g with
             |true=>
              have E:Hid (fb=true):=zzH (by rw [HF3.out,z2,z3];simp only [zzX1]);exact zz192
             |false=>
              cases z4:(x.to==0)with
              |false=>
               have E:Hid (fb=false):=zzH (by rw [HF3.out,z2,z3,z4];simp only [zzX2]);exact zz192
              |true=>
               have E:Hid (fb=true):=zzH (by rw [HF3.out,z2,z3,z4];simp only [zzX1]);exact zz192
        |false=>
         cases z1:x.name.toList.isEmpty with
         |false=>
          have z1':(x.name.toList== [])=false:=by rw [<-z1];cases x.name.toList<;>rfl
          have E:Hid (fb=false):=zzH (by rw [HF3.out,z1];simp only [zzX2]);exact zz192
         |true=>
          have z1':(x.name.toList== [])=true:=by rw [<-z1];cases x.name.toList<;>rfl
          cases e with
          |true=>
           cases f with
           |true=>
            cases g with
            |true=>
             have E:Hid (fb=true):=zzH (by rw [HF3.out,z1];simp only [zzX1]);exact zz192
            |false=>
             cases z4:(x.to==0)with
             |false=>
              have E:Hid (fb=false):=zzH (by rw [HF3.out,z1,z4];simp only [zzX2]);exact zz192
             |true=>
              have E:Hid (fb=true):=zzH (by rw [HF3.out,z1,z4];simp only [zzX1]);exact zz192
           |false=>
            cases z3:((x.segs.length:Int)==0)with
            |false=>
             have E:Hid (fb=false):=zzH (by rw [HF3.out,z1,z3];simp only [zzX2]);exact zz192
            |true=>
             cases g with
             |true=>
              have E:Hid (fb=true):=zzH (by rw [HF3.out,z1,z3];simp only [zzX1]);exact zz192
             |false=>
              cases z4:(x.to==0)with
              |false=>
               have E:Hid (fb=false):=zzH (by rw [HF3.out,z1,z3,z4];simp only [zzX2]);exact zz192
              |true=>
               have E:Hid (fb=true):=zzH (by rw [HF3.out,z1,z3,z4];simp only [zzX1]);exact zz192
          |false=>
           cases z2:((x.cases.length:Int)==0)with
           |false=>
            have E:Hid (fb=false):=zzH (by rw [HF3.out,z1,z2];simp only [zzX2]);exact zz192
           |true=>
            cases f with
            |true=>
             cases g with
             |true=>
              have E:Hid (fb=true):=zzH (by rw [HF3.out,z1,z2];simp only [zzX1]);exact zz192
             |false=>
              cases z4:(x.to==0)with
              |false=>
               have E:Hid (fb=false):=zzH (by rw [HF3.out,z1,z2,z4];simp only [zzX2]);exact zz192
              |true=>
               have E:Hid (fb=true):=zzH (by rw [HF3.out,z1,z2,z4];simp only [zzX1]);exact zz192
            |false=>
             cases z3:((x.segs.length:Int)==0)with
             |false=>
              have E:Hid (fb=false):=zzH (by rw [HF3.out,z1,z2,z3];simp only [zzX2]);exact zz192
             |true=>
              cases g with
              |true=>
               have E:Hid (fb=true):=zzH (by rw [HF3.out,z1,z2,z3];simp only [zzX1]);exact zz192
              |false=>
               cases z4:(x.to==0)with
               |false=>
                have E:Hid (fb=false):=zzH (by rw [HF3.out,z1,z2,z3,z4];simp only [zzX2]);exact zz192
               |true=>
                have E:Hid (fb=true):=zzH (by rw [HF3.out,z1,z2,z3,z4];simp only [zzX1]);exact zz192
       |false=>
        cases z0:(x.n==0)with
        |false=>
         have E:Hid (fb=false):=zzH (by rw [HF3.out,z0];simp only [zzX2]);exact zz192
        |true=>
         cases d with
         |true=>
          cases e with
          |true=>
           cases f with
           |true=>
            cases g with
            |true=>
             have E:Hid (fb=true):=zzH (by rw [HF3.out,z0];simp only [zzX1]);exact zz192
            |false=>
             cases z4:(x.to==0)with
             |false=>
              have E:Hid (fb=false):=zzH (by rw [HF3.out,z0,z4];simp only [zzX2]);exact zz192
             |true=>
              have E:Hid (fb=true):=zzH (by rw [HF3.out,z0,z4];simp only [zzX1]);exact zz192
           |false=>
            cases z3:((x.segs.length:Int)==0)with
            |false=>
             have E:Hid (fb=false):=zzH (by rw [HF3.out,z0,z3];simp only [zzX2]);exact zz192
            |true=>
             cases g with
             |true=>
              have E:Hid (fb=true):=zzH (by rw [HF3.out,z0,z3];simp only [zzX1]);exact zz192
             |false=>
              cases z4:(x.to==0)with
              |false=>
               have E:Hid (fb=false):=zzH (by rw [HF3.out,z0,z3,z4];simp only [zzX2]);exact zz192
              |true=>
               have E:Hid (fb=true):=zzH (by rw [HF3.out,z0,z3,z4];simp only [zzX1]);exact zz192
          |false=>
           cases z2:((x.cases.length:Int)==0)with
           |false=>
            have E:Hid (fb=false):=zzH (by rw [HF3.out,z0,z2];simp only [zzX2]);exact zz192
           |true=>
            cases f with
            |true=>
             cases g with
             |true=>
              have E:Hid (fb=true):=zzH (by rw [HF3.out,z0,z2];simp only [zzX1]);exact zz192
             |false=>
              cases z4:(x.to==0)with
              |false=>
               have E:Hid (fb=false):=zzH (by rw [HF3.out,z0,z2,z4];simp only [zzX2]);exact zz192
              |true=>
               have E:Hid (fb=true):=zzH (by rw [HF3.out,z0,z2,z4];simp only [zzX1]);exact zz192
            |false=>
             cases z3:((x.segs.length:Int)==0)with
             |false=>
              have E:Hid (fb=false):=zzH (by rw [HF3.out,z0,z2,z3];simp only [zzX2]);exact zz192
             |true=>
              cases g with
              |true=>
               have E:Hid (fb=true):=zzH (by rw [HF3.out,z0,z2,z3];simp only [zzX1]);exact zz192
              |false=>
               cases z4:(x.to==0)with
               |false=>
                have E:Hid (fb=false):=zzH (by rw [HF3.out,z0,z2,z3,z4];simp only [zzX2]);exact zz192
               |true=>
                have E:Hid (fb=true):=zzH (by rw [HF3.out,z0,z2,z3,z4];simp only [zzX1]);exact zz192
         |false=>
          cases z1:x.name.toList.isEmpty with
          |false=>
           have z1':(x.name.toList== [])=false:=by rw [<-z1];cases x.name.toList<;>rfl
           have E:Hid (fb=false):=zzH (by rw [HF3.out,z0,z1];simp only [zzX2]);exact zz192
          |true=>
           have z1':(x.name.toList== [])=true:=by rw [<-z1];cases x.name.toList<;>rfl
           cases e with
           |true=>
            cases f with
            |true=>
             cases g with
             |true=>
              have E:Hid (fb=true):=zzH (by rw [HF3.out,z0,z1];simp only [zzX1]);exact zz192
             |false=>
              cases z4:(x.to==0)with
              |false=>
               have E:Hid (fb=false):=zzH (by rw [HF3.out,z0,z1,z4];simp only [zzX2]);exact zz192
              |true=>
               have E:Hid (fb=true):=zzH (by rw [HF3.out,z0,z1,z4];simp only [zzX1]);exact zz192
            |false=>
             cases z3:((x.segs.length:Int)==0)with
             |false=>
              have E:Hid (fb=false):=zzH (by rw [HF3.out,z0,z1,z3];simp only [zzX2]);exact zz192
             |true=>
              cases g with
              |true=>
               have E:Hid (fb=true):=zzH (by rw [HF3.out,z0,z1,z3];simp only [zzX1]);exact zz192
              |false=>
               cases z4:(x.to==0)with
               |false=>
                have E:Hid (fb=false):=zzH (by rw [HF3.out,z0,z1,z3,z4];simp only [zzX2]);exact zz192
               |true=>
                have E:Hid (fb=true):=zzH (by rw [HF3.out,z0,z1,z3,z4];simp only [zzX1]);exact zz192
           |false=>
            cases z2:((x.cases.length:Int)==0)with
            |false=>
             have E:Hid (fb=false):=zzH (by rw [HF3.out,z0,z1,z2];simp only [zzX2]);exact zz192
            |true=>
             cases f with
             |true=>
              cases g with
              |true=>
               have E:Hid (fb=true):=zzH (by rw [HF3.out,z0,z1,z2];simp only [zzX1]);exact zz192
              |false=>
               cases z4:(x.to==0)with
               |false=>
                have E:Hid (fb=false):=zzH (by rw [HF3.out,z0,z1,z2,z4];simp only [zzX2]);exact zz192
               |true=>
                have E:Hid (fb=true):=zzH (by rw [HF3.out,z0,z1,z2,z4];simp only [zzX1]);exact zz192
             |false=>
              cases z3:((x.segs.length:Int)==0)with
              |false=>
               have E:Hid (fb=false):=zzH (by rw [HF3.out,z0,z1,z2,z3];simp only [zzX2]);exact zz192
              |true=>
               cases g with
               |true=>
                have E:Hid (fb=true):=zzH (by rw [HF3.out,z0,z1,z2,z3];simp only [zzX1]);exact zz192
               |false=>
                cases z4:(x.to==0)with
                |false=>
                 have E:Hid (fb=false):=zzH (by rw [HF3.out,z0,z1,z2,z3,z4];simp only [zzX2]);exact zz192
                |true=>
                 have E:Hid (fb=true):=zzH (by rw [HF3.out,z0,z1,z2,z3,z4];simp only [zzX1]);exact zz192
theorem zlD (nl:Nat) (x:RIns) (h:1<=x.op/\x.op<=40):zeH nl x (zeC x.op)=zQ nl x (zr x.op).1.toNat (zr x.op).2.1.toNat (zr x.op).2.2.toNat:=by
 rw [zi6 h,<-zj3];have hk:x.op.toNat<41:=by omega
 have hr:zr x.op=rowT[x.op.toNat]'hk:=by unfold zr;rw [zzq11 (by exact hk)];rfl
 have:=zhO x.op.toNat hk;rw [hr,Int.toNat_of_nonneg this.2.2.1,Int.toNat_of_nonneg this.2.2.2.2.1]
theorem zkO (code:List RIns) (i:Nat) (x:RIns) (h:1<=x.op/\x.op<=40):zeE code i x (zeC x.op).g=zbT code i x (zr x.op).1.toNat:=by
 rw [zi6 h];exact zlE code i x _
theorem zih (f:Nat) (u:RUnit) (lo fo go co:zzA) (lc fc gc cc:Nat) (w:World) (hp:UP w u lo fo go co) (hlits:SlAt w 9 (TmAt w (f+1)) lo u.lits) (hcap: ∀t∈u.lits,(zG (f+1) t:Int)<=1152921504606846976):
  Calls Tryz.prog 39 #[.agg (zzu u lo lc fo fc go gc co cc)] w fun e w'=>e= .returned (.tuple #[.int .i64 (zb6 (f+1) u),.int .i64 (zZ (f+1) u)])/\Below w.heap.size w w':=by
 unfold zzu;refine zzK3 hp hlits hcap fun HP0 HLI0 HCAP=>?_;have hcl:=hp.codeLen;clear hp hlits hcap;have hbx:=zcJ w u lo fo go co lc fc gc cc;have hba:Below w.heap.size w (w.alloc (.cells (zzu u lo lc fo fc go gc co cc) 27)):=zzE _ _;have HT:=zzH (zlo f u lo fo go co lc fc gc cc _ (HP0.out.below hba) (HLI0.out.tms hba) HCAP.out);have EI:Hid (zb6 (f+1) u=if zM (f+1) u=true then(match zbj u u.code 0 with|some i=>(i:Int)|none=>0)else -1):=zzH rfl;have EE:Hid (zZ (f+1) u=if zM (f+1) u=true then(match zbj u u.code 0 with|some _=>6|none=>0)else 6):=zzH rfl;have HLV:Hid (zM (f+1) u=true-> ∀t∈u.lits,zA (f+1) t=true):=zzH zds;go_in;go_upto_region 1 with fail;generalize w.alloc (.cells (zzu u lo lc fo fc go gc co cc) 27)=W at *;refine zzK3 hba (HP0.out.below hba) (HLI0.out.tms hba) fun HBA HP HLI=>?_;clear hba HP0 HLI0;generalize hBz:w.heap.size=B at *;have HBZ:=zzH hBz;clear hBz;have HFIN:Hid (∀wx,Below W.heap.size W wx->Below B w wx):=zzH (fun wx hh=>HBA.out.trans (hh.mono (by have:=HBA.out.size;have:=HBZ.out;omega)));have HU:=zzH hbx;have z0:=hbx.c0;have z1:=hbx.c1;have z2:=hbx.c2;have z3:=hbx.c3;have z4:=hbx.c4;have z5:=hbx.c5;have hlu:=hbx.lt;clear hbx;generalize zM (f+1) u=tb at *
 cases tb with
 |false=>
  rw [if_neg (by decide)]at EI EE;go_wp2_with fail;refine HT.out.mono ?_;rintro e w5 ⟨rfl,hb5⟩;go_wp2;go_ret2;exact⟨zcY EI.out.symm EE.out.symm,by rw [HBZ.out];exact HFIN.out _ hb5⟩
 |true=>
  rw [if_pos rfl]at EI EE;have HI:Hid (zbj u u.code 0=zbj u (u.code.drop 0) 0):=zzH rfl;go_wp2_with fail;refine HT.out.mono ?_;rintro e w5 ⟨rfl,hb5⟩;have HB5:=zzH hb5;clear z0 z1 z2 z3 z4 z5 hlu;have z5:=(HU.out.below hb5).c5;clear hb5;go_wp2_with fail;go_loopw [4,5,6,7] (fun i _ _ _ wr=> ∃k:Nat,k<=u.code.length/\i= .int .i64 k/\Hid (zbj u u.code 0=zbj u (u.code.drop k) k)/\Below W.heap.size W wr) (fun i _ _ _ _=>u.code.length-(intOf i).toNat)
  case atStart=>exact⟨0,zzZ _,rfl,HI,HB5.out⟩
  case round=>
   obtain⟨k,hk,rfl,HK,hBw⟩:=hrel;rename World=>wr
   clear z5 HI HB5;have HBW:=zzH hBw;have z5:=(HU.out.below hBw).c5;have hlu:=(HU.out.below hBw).lt;clear hBw;by_cases hlt:k<u.code.length
   ·obtain⟨bc,oc,so,co',go',sc,cc',gc',hco,hxb⟩:=zfd (HP.out.below HBW.out).code hlt
    subst hco;have HST:=zzH (zk9 u hlt);have k0:=hxb.c0;have k1:=hxb.c1;have k2:=hxb.c2;have k3:=hxb.c3;have k4:=hxb.c4;have k5:=hxb.c5;have k6:=hxb.c6;have k7:=hxb.c7;have k8:=hxb.c8;have k9:=hxb.c9;have hkl:=hxb.lt;have HXB:=zzH hxb;have HINS:Hid (zep u k u.code[k]=(zdi u.code[k].op&&(zQ u.lits.length u.code[k] (zr u.code[k].op).1.toNat (zr u.code[k].op).2.1.toNat (zr u.code[k].op).2.2.toNat&&(zl u.funcs.length u.funs u.code[k]&&(zbh u.code[k]&&(zbo u.lits u.code[k]&&zbT u.code k u.code[k] (zr u.code[k].op).1.toNat)))))):=zzH rfl;have HRF:Hid (1<=u.code[k].op/\u.code[k].op<=40->zeH u.lits.length u.code[k] (zeC u.code[k].op)=zQ u.lits.length u.code[k] (zr u.code[k].op).1.toNat (zr u.code[k].op).2.1.toNat (zr u.code[k].op).2.2.toNat):=zzH (fun h=>zlD _ _ h);have HRT:Hid (1<=u.code[k].op/\u.code[k].op<=40->zeE u.code k u.code[k] (zeC u.code[k].op).g=zbT u.code k u.code[k] (zr u.code[k].op).1.toNat):=zzH (fun h=>zkO _ _ _ h);have hro:=fun wx=>ziE u.code[k].op wx
    have hbad:zep u k u.code[k]=false->zbj u u.code 0=some k:=fun e=>by rw [HK.out,HST.out,e];rfl
    have hgood:zep u k u.code[k]=true->zbj u u.code 0=zbj u (u.code.drop (k+1)) (k+1):=fun e=>by rw [HK.out,HST.out,e];rfl
    have hlx:=hxb.rsrc;have hlcs:=hxb.rcases;have hlsg:=hxb.rsegs;have hnm:=hxb.rname;have hnn:=hxb.rn;have hdk:=And.intro hxb.rdk hxb.rdn;refine zzK7 (fun wx (hx:Below W.heap.size W wx) (hb:Below wr.heap.size wr wx)=>zlN u lo fo go (some ⟨bc,oc,none⟩) lc fc gc cc u.code[k] so co' go' sc cc' gc' (zeC u.code[k].op) wx HP.out.litsLen (hxb.src.mono hb fun _ _ h=>h) hdk hlx hlcs hlsg) (fun wx (hx:Below W.heap.size W wx) (hb:Below wr.heap.size wr wx)=>zlz u lo fo go (some ⟨bc,oc,none⟩) lc fc gc cc u.code[k] so co' go' sc cc' gc' wx HP.out.funcsLen HP.out.funsLen (HP.out.below hx).funs hnn hlx) (fun wx (hx:Below W.heap.size W wx) (hb:Below wr.heap.size wr wx)=>znj u.code[k] so co' go' sc cc' gc' wx hnm hlx hnn) (fun wx (hx:Below W.heap.size W wx) (hb:Below wr.heap.size wr wx)=>znR u lo fo go (some ⟨bc,oc,none⟩) lc fc gc cc u.code[k] so co' go' sc cc' gc' f wx HP.out.litsLen ⟨HLI.out.tms hx,fun t ht=>⟨HLV.out (by trivial) t ht,HCAP.out t ht⟩⟩ (hxb.cases.mono hb fun _ _ h=>h) (hxb.segs.mono hb fun _ _ h=>h) hlcs hlsg) (fun wx (hx:Below W.heap.size W wx) (hb:Below wr.heap.size wr wx)=>zkx u lo fo go (some ⟨bc,oc,none⟩) lc fc gc cc k (zeC u.code[k].op) wx (HP.out.below hx).code hcl hlt) hbad hgood fun CF CN CM CL CT HBAD HGOOD=>?_;dsimp only [zzi,zzu]at CF CN CM CL CT;clear hbad hgood hxb HST HXB hlx hlcs hlsg hnm hnn hdk;have hXB:=fun(wx:World)=>zzF wx (.cells #[.int .i64 u.code[k].op,.int .i64 u.code[k].dst.kind,.int .i64 u.code[k].dst.n,.slice so u.code[k].src.length sc,.int .i64 u.code[k].to,.int .i64 u.code[k].n,.int .i64 u.code[k].live,.string u.code[k].name,.slice co' u.code[k].cases.length cc',.slice go' u.code[k].segs.length gc'] 36)
    have HXN:=zzH hXB;clear hXB;generalize zeH u.lits.length u.code[k] (zeC u.code[k].op)=b1 at *;generalize zeE u.code k u.code[k] (zeC u.code[k].op).g=b5 at *;generalize zl u.funcs.length u.funs u.code[k]=b2 at *;generalize zbh u.code[k]=b3 at *;generalize zbo u.lits u.code[k]=b4 at *;generalize zep u k u.code[k]=ib at *;have hopk:zdi u.code[k].op=true->1<=u.code[k].op/\u.code[k].op<=40:=fun h=>zza h
    have HOPK:=zzH hopk;clear hopk;generalize zQ u.lits.length u.code[k] (zr u.code[k].op).1.toNat (zr u.code[k].op).2.1.toNat (zr u.code[k].op).2.2.toNat=f1 at *;generalize zbT u.code k u.code[k] (zr u.code[k].op).1.toNat=f5 at *
    have HIB:Hid (ib=(zdi u.code[k].op&&(b1&&(b2&&(b3&&(b4&&b5)))))):=zzH (by
     rw [HINS.out]
     cases h:zdi u.code[k].op with
     |false=>rfl
     |true=>rw [HRF.out (HOPK.out h),HRT.out (HOPK.out h)])
    clear HINS HRF HRT HOPK;generalize zdi u.code[k].op=b0 at *;generalize hrw:zeC u.code[k].op=rw0 at *;obtain⟨ra,rb,rc,rd,re,rf,rg,rh,rlo,rhi⟩:=rw0;clear hrw;simp only [RRow.val]at hro CF CT;generalize u.code[k]=x at *;obtain⟨op,⟨dk,dn⟩,src,jt,nn,lv,nm,cases,segs⟩:=x;simp only at *;generalize src.length=sl at *;generalize cases.length=cl at *;generalize segs.length=gl at *;go_upto_region 7 with fail;have hx1:=HXN.out wr;have hxb1:Below wr.heap.size wr (wr.alloc (.cells #[.int .i64 op,.int .i64 dk,.int .i64 dn,.slice so sl sc,.int .i64 jt,.int .i64 nn,.int .i64 lv,.string nm,.slice co' cl cc',.slice go' gl gc'] 36)):=zzE _ _;generalize wr.alloc (.cells #[.int .i64 op,.int .i64 dk,.int .i64 dn,.slice so sl sc,.int .i64 jt,.int .i64 nn,.int .i64 lv,.string nm,.slice co' cl cc',.slice go' gl gc'] 36)=W1 at *;clear HXN;have HX1:=zzH hx1;have HB1:=zzH hxb1;have x0:W1.cell? ⟨wr.heap.size,0,none⟩=some (.int .i64 op):=by rw [zzq2 _ _ _ _ _ _ hx1];rfl
    have hlx1:=zc hx1;clear k0 k1 k2 k3 k4 k5 k6 k7 k8 k9 z5 hlu hkl hx1 hxb1;generalize hXz:wr.heap.size=X at *;have HXZ:=zzH hXz;clear hXz;go_wp2_with fail;refine(hro _).mono ?_;rintro e w2 ⟨rfl,hb2⟩;go_upto_region 8 with fail;have hr1:=zzF w2 (.cells #[.bool ra,.bool rb,.bool rc,.bool rd,.bool re,.bool rf,.bool rg,.bool rh,.int .i64 rlo,.int .i64 rhi] 148);have hrb1:Below w2.heap.size w2 (w2.alloc (.cells #[.bool ra,.bool rb,.bool rc,.bool rd,.bool re,.bool rf,.bool rg,.bool rh,.int .i64 rlo,.int .i64 rhi] 148)):=zzE _ _;generalize w2.alloc (.cells #[.bool ra,.bool rb,.bool rc,.bool rd,.bool re,.bool rf,.bool rg,.bool rh,.int .i64 rlo,.int .i64 rhi] 148)=W2 at *;have HR1:=zzH hr1;have HB2:Hid (Below wr.heap.size wr W2):=zzH ((show Below wr.heap.size wr W1 by rw [HXZ.out];exact HB1.out).trans ((hb2.trans (hrb1.mono hb2.size)).mono (by have:=HB1.out.size;have:=HXZ.out;omega)));have HX2:Hid (W2.heap[X]?=some (.cells #[.int .i64 op,.int .i64 dk,.int .i64 dn,.slice so sl sc,.int .i64 jt,.int .i64 nn,.int .i64 lv,.string nm,.slice co' cl cc',.slice go' gl gc'] 36 (0,0))):=zzH (((hb2.trans (hrb1.mono hb2.size)).block X hlx1).trans HX1.out)
    have HBW2:Hid (Below W.heap.size W W2):=zzH (zd HBW.out HB2.out);clear x0 hlx1 hb2 hrb1 hr1 HX1 HB1;generalize hRz:w2.heap.size=Z at *;have HRZ:=zzH hRz;clear hRz
    cases b0 with
    |false=>
     have hb:=HBAD.out HIB.out;have E1:Hid (zb6 (f+1) u=k):=zzH (by rw [EI.out,hb]);have E2:Hid (zZ (f+1) u=6):=zzH (by rw [EE.out,hb]);clear hb;go_wp2;go_ret2;exact⟨zcY E1.out.symm E2.out.symm,by rw [HBZ.out];exact HFIN.out _ (zd HBW2.out (zzR _ _))⟩
    |true=>
     have z0:=(HU.out.below HBW2.out).c0;have z1:=(HU.out.below HBW2.out).c1;have z2:=(HU.out.below HBW2.out).c2;have z3:=(HU.out.below HBW2.out).c3;have z4:=(HU.out.below HBW2.out).c4;have z5:=(HU.out.below HBW2.out).c5;have hlua:=(HU.out.below HBW2.out).lt;have qx:=HX2.out;obtain ⟨x0,x1,x2,x3,x4,x5,x6,x7,x8,x9⟩:=zzc10 qx;have hlxa:=zc qx;clear qx;have qr:=HR1.out;obtain ⟨r0,r1,r2,r3,r4,r5,r6,r7,r8,r9⟩:=zzc10 qr;have hlra:=zc qr;clear qr;go_wp2_with fail;refine(CF.out _ (zd HBW2.out (zzR _ _)) (by rw [<-HXZ.out];exact zd HB2.out (zzR _ _))).mono ?_;rintro e w10 ⟨rfl,hb10⟩;have HB10:=zzH (zd (zzR _ _) hb10);clear hb10 z0 z1 z2 z3 z4 z5 x0 x1 x2 x3 x4 x5 x6 x7 x8 x9 r0 r1 r2 r3 r4 r5 r6 r7 r8 r9
     cases b1 with
     |false=>
      have hb:=HBAD.out HIB.out;have E1:Hid (zb6 (f+1) u=k):=zzH (by rw [EI.out,hb]);have E2:Hid (zZ (f+1) u=6):=zzH (by rw [EE.out,hb]);clear hb;go_wp2;go_ret2;exact⟨zcY E1.out.symm E2.out.symm,by rw [HBZ.out];exact HFIN.out _ (zd HBW2.out HB10.out)⟩
     |true=>
      have z0:=(HU.out.below (zd HBW2.out HB10.out)).c0;have z1:=(HU.out.below (zd HBW2.out HB10.out)).c1;have z2:=(HU.out.below (zd HBW2.out HB10.out)).c2;have z3:=(HU.out.below (zd HBW2.out HB10.out)).c3;have z4:=(HU.out.below (zd HBW2.out HB10.out)).c4;have z5:=(HU.out.below (zd HBW2.out HB10.out)).c5;have hlub:=(HU.out.below (zd HBW2.out HB10.out)).lt;have qx:=(HB10.out.block X (zc HX2.out)).trans HX2.out;obtain ⟨x0,x1,x2,x3,x4,x5,x6,x7,x8,x9⟩:=zzc10 qx;have hlxb:=zc qx;clear qx;go_wp2_with fail;refine(CN.out _ (zd HBW2.out HB10.out) (by rw [<-HXZ.out];exact zd HB2.out HB10.out)).mono ?_;rintro e w11 ⟨rfl,hb11⟩;have HB11:=zzH (zd HB10.out hb11);clear hb11 z0 z1 z2 z3 z4 z5 x0 x1 x2 x3 x4 x5 x6 x7 x8 x9
      cases b2 with
      |false=>
       have hb:=HBAD.out HIB.out;have E1:Hid (zb6 (f+1) u=k):=zzH (by rw [EI.out,hb]);have E2:Hid (zZ (f+1) u=6):=zzH (by rw [EE.out,hb]);clear hb;go_wp2;go_ret2;exact⟨zcY E1.out.symm E2.out.symm,by rw [HBZ.out];exact HFIN.out _ (zd HBW2.out HB11.out)⟩
      |true=>
       have qx:=(HB11.out.block X (zc HX2.out)).trans HX2.out;obtain ⟨x0,x1,x2,x3,x4,x5,x6,x7,x8,x9⟩:=zzc10 qx;have hlxc:=zc qx;clear qx;go_wp2_with fail;refine(CM.out _ (zd HBW2.out HB11.out) (by rw [<-HXZ.out];exact zd HB2.out HB11.out)).mono ?_;rintro e w12 ⟨rfl,hb12⟩;have HB12:=zzH (zd HB11.out hb12);clear hb12 x0 x1 x2 x3 x4 x5 x6 x7 x8 x9
       cases b3 with
       |false=>
        have hb:=HBAD.out HIB.out;have E1:Hid (zb6 (f+1) u=k):=zzH (by rw [EI.out,hb]);have E2:Hid (zZ (f+1) u=6):=zzH (by rw [EE.out,hb]);clear hb;go_wp2;go_ret2;exact⟨zcY E1.out.symm E2.out.symm,by rw [HBZ.out];exact HFIN.out _ (zd HBW2.out HB12.out)⟩
       |true=>
        have z0:=(HU.out.below (zd HBW2.out HB12.out)).c0;have z1:=(HU.out.below (zd HBW2.out HB12.out)).c1;have z2:=(HU.out.below (zd HBW2.out HB12.out)).c2;have z3:=(HU.out.below (zd HBW2.out HB12.out)).c3;have z4:=(HU.out.below (zd HBW2.out HB12.out)).c4;have z5:=(HU.out.below (zd HBW2.out HB12.out)).c5;have hlud:=(HU.out.below (zd HBW2.out HB12.out)).lt;have qx:=(HB12.out.block X (zc HX2.out)).trans HX2.out;obtain ⟨x0,x1,x2,x3,x4,x5,x6,x7,x8,x9⟩:=zzc10 qx;have hlxd:=zc qx;clear qx;go_wp2_with fail;refine(CL.out _ (zd HBW2.out HB12.out) (by rw [<-HXZ.out];exact zd HB2.out HB12.out)).mono ?_;rintro e w13 ⟨rfl,hb13⟩;have HB13:=zzH (zd HB12.out hb13);clear hb13 z0 z1 z2 z3 z4 z5 x0 x1 x2 x3 x4 x5 x6 x7 x8 x9
        cases b4 with
        |false=>
         have hb:=HBAD.out HIB.out;have E1:Hid (zb6 (f+1) u=k):=zzH (by rw [EI.out,hb]);have E2:Hid (zZ (f+1) u=6):=zzH (by rw [EE.out,hb]);clear hb;go_wp2;go_ret2;exact⟨zcY E1.out.symm E2.out.symm,by rw [HBZ.out];exact HFIN.out _ (zd HBW2.out HB13.out)⟩
        |true=>
         have z0:=(HU.out.below (zd HBW2.out HB13.out)).c0;have z1:=(HU.out.below (zd HBW2.out HB13.out)).c1;have z2:=(HU.out.below (zd HBW2.out HB13.out)).c2;have z3:=(HU.out.below (zd HBW2.out HB13.out)).c3;have z4:=(HU.out.below (zd HBW2.out HB13.out)).c4;have z5:=(HU.out.below (zd HBW2.out HB13.out)).c5;have hlue:=(HU.out.below (zd HBW2.out HB13.out)).lt;have qr:=(HB13.out.block Z (zc HR1.out)).trans HR1.out;obtain ⟨r0,r1,r2,r3,r4,r5,r6,r7,r8,r9⟩:=zzc10 qr;have hlre:=zc qr;clear qr;go_wp2_with fail;refine(CT.out _ (zd HBW2.out HB13.out) (by rw [<-HXZ.out];exact zd HB2.out HB13.out)).mono ?_;rintro e w14 ⟨rfl,hb14⟩;have HB14:=zzH (zd HB13.out hb14);clear hb14 z0 z1 z2 z3 z4 z5 r0 r1 r2 r3 r4 r5 r6 r7 r8 r9
         cases b5 with
         |false=>
          have hb:=HBAD.out HIB.out;have E1:Hid (zb6 (f+1) u=k):=zzH (by rw [EI.out,hb]);have E2:Hid (zZ (f+1) u=6):=zzH (by rw [EE.out,hb]);clear hb;go_wp2;go_ret2;exact⟨zcY E1.out.symm E2.out.symm,by rw [HBZ.out];exact HFIN.out _ (zd HBW2.out HB14.out)⟩
         |true=>
          have HK2:=zzH (HGOOD.out HIB.out);go_wp2_with fail;go_roundw
          case rel=>exact⟨k+1,by omega,by go_num,HK2,zd HBW2.out HB14.out⟩
          case measure=>simp [intOf];omega
   ·have hb:zbj u u.code 0=none:=by rw [HK.out,zzq8 (by omega)];rfl
    have E1:Hid (zb6 (f+1) u=0):=zzH (by rw [EI.out,hb]);have E2:Hid (zZ (f+1) u=0):=zzH (by rw [EE.out,hb]);clear hb;go_wp2;go_ret2;exact⟨zcY E1.out.symm E2.out.symm,by rw [HBZ.out];exact HFIN.out _ HBW.out⟩
end Go.Proofs.YtijekmeocadkeaaGreatDoor
