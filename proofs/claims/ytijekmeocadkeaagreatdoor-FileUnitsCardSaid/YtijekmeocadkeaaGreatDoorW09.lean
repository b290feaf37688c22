import Derived.Test.YtijekmeocadkeaaGreatDoorW05
import Derived.Test.YtijekmeocadkeaaGreatDoorW06
namespace Go.Proofs.YtijekmeocadkeaaGreatDoor
open Go.RowKit
set_option linter.unusedVariables false
set_option linter.unusedSimpArgs false
set_option maxRecDepth 100000
set_option maxHeartbeats 0
theorem zkp {n:Nat} (h:n<4294967296):zdI (be4 n)=n:=by
 simp only [zdI,be4,UInt8.toNat_ofNat'];omega
theorem zdU (n:Nat):(be4 n).length=4:=rfl
def zdu (l:List Ch):List UInt8:=l.flatMap chB
theorem znF (l:List Ch): ∀acc:List UInt8,l.foldl (fun acc x=>acc++chB x) acc=acc++zdu l:=by
 induction l with
 |nil=>intro acc;simp [zdu]
 |cons x l ih=>intro acc;rw [List.foldl_cons,ih];simp [zdu]
theorem zjj (z:Nat) (l:List Ch):zcZ z l=zgH++be4 (z-8)++zdu l:=znF l _
def Fit (x:Ch):Prop:=x.1.size=4/\x.1.data.toList≠CSUM/\x.2.size<4294967296
theorem zs2 {x:Ch} (h:x.1.size=4):(chB x).length=8+zbm x.2.size:=by
 have e1:x.1.data.toList.length=x.1.size:=Array.length_toList;have e2:x.2.data.toList.length=x.2.size:=Array.length_toList;have:=zcS x.2.size;simp only [chB,zzq1,List.length_replicate,zdU];omega
theorem zqL (l:List Ch) (h: ∀x,x∈l->x.1.size=4): ∀n:Nat,l.foldl (fun n x=>n+(8+zbm x.2.size)) n=n+(zdu l).length:=by
 induction l with
 |nil=>intro n;simp [zdu]
 |cons x l ih=>
  intro n;rw [List.foldl_cons,ih (fun y hy=>h y (List.mem_cons_of_mem _ hy))];have:=zs2 (h x zzg);simp only [zdu,List.flatMap_cons,zzq1];omega
theorem zhP {l:List Ch} (h: ∀x,x∈l->x.1.size=4):szL l=20+(zdu l).length:=zqL l h 20
theorem zjK {l:List Ch} (h: ∀x,x∈l->x.1.size=4):(zbH l).length=szL l-4:=by
 rw [zbH,zjj,zhP h];simp only [zzq1,zdU,zgH,zzq18,List.length_nil];omega
theorem zpr (n:Nat):(List.replicate n (0:UInt8)).all (· ==0)=true:=by
 rw [List.all_eq_true];intro b hb;rw [List.eq_of_mem_replicate hb];rfl
theorem ziF {nm dt:List UInt8} (r:List UInt8) (h4:nm.length=4) (hd:dt.length<4294967296):
  zdz (nm++be4 dt.length++dt++List.replicate (zbm dt.length-dt.length) 0++r)=some (nm,dt,r):=by
 have hp:=zcS dt.length;generalize hz:List.replicate (zbm dt.length-dt.length) (0:UInt8)=z;have hzl:z.length=zbm dt.length-dt.length:=by rw [<-hz];simp
 have hza:z.all (· ==0)=true:=by rw [<-hz];exact zpr _
 have e:nm++be4 dt.length++dt++z++r=nm++(be4 dt.length++(dt++(z++r))):=by simp
 have d4:(nm++(be4 dt.length++(dt++(z++r)))).drop 4=be4 dt.length++(dt++(z++r)):=List.drop_left' h4;have t4:(nm++(be4 dt.length++(dt++(z++r)))).take 4=nm:=List.take_left' h4
 have d8:(nm++(be4 dt.length++(dt++(z++r)))).drop 8=dt++(z++r):=by
  rw [show 8=4+4 from rfl,<-List.drop_drop,d4];exact List.drop_left' (zdU _)
 have tn:((nm++(be4 dt.length++(dt++(z++r)))).drop 4).take 4=be4 dt.length:=by rw [d4];exact List.take_left' (zdU _)
 have dn:(nm++(be4 dt.length++(dt++(z++r)))).drop (8+dt.length)=z++r:=by
  rw [<-List.drop_drop,d8];exact List.drop_left' rfl
 have dp:(nm++(be4 dt.length++(dt++(z++r)))).drop (8+zbm dt.length)=r:=by
  rw [show 8+zbm dt.length=(8+dt.length)+(zbm dt.length-dt.length)by omega,<-List.drop_drop,dn];exact List.drop_left' hzl
 have hlen:(nm++(be4 dt.length++(dt++(z++r)))).length=8+zbm dt.length+r.length:=by
  simp only [zzq1,zdU];omega
 rw [e];unfold zdz;rw [if_neg (by omega),tn,zkp hd,if_neg (by omega),dn,t4,dp,d8,List.take_left' hzl,if_pos hza,List.take_left' rfl]
theorem zoV (x:Ch):((⟨x.1.data.toList.toArray⟩,⟨x.2.data.toList.toArray⟩):Ch)=x:=by
 rcases x with⟨⟨a⟩,⟨b⟩⟩;simp
theorem zqB:CSUM.length=4:=rfl
theorem zpN:zbm 4-4=0:=rfl
theorem znC {t:List UInt8} (h:t.length=4):zdz (CSUM++be4 4++t)=some (CSUM,t,[]):=by
 have:=ziF (nm:=CSUM) (dt:=t) [] zqB (by omega);rw [h,zpN]at this
 simpa using this
theorem zkf (t:List UInt8) (ht:t.length=4): ∀(l acc:List Ch) (n:Nat),l.length<n->(∀x,x∈l->Fit x)->zer n acc (zdu l++(CSUM++be4 4++t))=some (acc++l)
 |[],acc,n+1,_,_=>by
  rw [show zdu []++(CSUM++be4 4++t)=CSUM++be4 4++t from rfl,zhn (znC ht),if_pos ⟨ht,rfl⟩,List.append_nil]
 |x::l,acc,n+1,hn,hf=>by
  obtain⟨f1,f2,f3⟩:=hf x zzg;have e1:x.1.data.toList.length=x.1.size:=Array.length_toList;have e2:x.2.data.toList.length=x.2.size:=Array.length_toList;have hc:=ziF (nm:=x.1.data.toList) (dt:=x.2.data.toList) (zdu l++(CSUM++be4 4++t)) (by omega) (by omega);rw [e2]at hc;have ef:zdu (x::l)++(CSUM++be4 4++t)=chB x++(zdu l++(CSUM++be4 4++t)):=by simp [zdu]
  rw [ef,show chB x=x.1.data.toList++be4 x.2.size++x.2.data.toList++List.replicate (zbm x.2.size-x.2.size) 0 from rfl,zg9 hc f2,zoV,
   zkf t ht l (acc++ [x]) n (by simpa using hn) (fun y hy=>hf y (zzh _ hy))]
  simp
theorem zlJ (l:List Ch) (x:Ch) (h:x∈l):x.2.size<=(zdu l).length:=by
 induction l with
 |nil=>exact absurd h List.not_mem_nil
 |cons y l ih=>
  have e:(zdu (y::l)).length=(chB y).length+(zdu l).length:=by simp [zdu]
  rcases List.mem_cons.1 h with rfl|h
  ·have e2:x.2.data.toList.length=x.2.size:=Array.length_toList
   have:(chB x).length=x.1.data.toList.length+4+x.2.size+(zbm x.2.size-x.2.size):=by
    simp only [chB,zzq1,List.length_replicate,zdU];omega
   omega
  ·have:=ih h;omega
theorem zjD {l:List Ch} (h:dst l=true): ∀x,x∈l->x.1.size=4/\x.1.data.toList≠CSUM:=by
 intro x hx;obtain⟨i,hi,rfl⟩:=List.getElem_of_mem hx;have hg:=zzp.1 h i (List.mem_range.2 hi);unfold zeO at hg;rw [zzq6]at hg;have hn:=hg.1;have e:l[i]! =l[i]:=by simp [hi]
 rw [e]at hn;unfold nm at hn;simp only [zzq6,zzq7,Bool.not_eq_true',decide_eq_false_iff_not]at hn;exact⟨by have:=hn.1;rw [Array.length_toList]at this;exact this,hn.2.1⟩
theorem zkD {l:List Ch} {t:List UInt8} (hd:dst l=true) (hl:l.length<=16) (hz:szL l<=16777216) (ht:t.length=4):zfl (zbH l++t)=some l:=by
 have hnm:=zjD hd;have h4: ∀x,x∈l->x.1.size=4:=fun x hx=>(hnm x hx).1
 have hsz:=zhP h4;have hfit: ∀x,x∈l->Fit x:=fun x hx=>⟨(hnm x hx).1,(hnm x hx).2,by have:=zlJ l x hx;omega⟩
 have e:zbH l++t=zgH++(be4 (szL l-8)++(zdu l++(CSUM++be4 4++t))):=by
  rw [zbH,zjj];simp [CSUM]
 have hlen:(zbH l++t).length=szL l:=by rw [zzq1,zjK h4];omega
 have t4:(zbH l++t).take 4=zgH:=by rw [e];exact List.take_left' rfl
 have d4:(zbH l++t).drop 4=be4 (szL l-8)++(zdu l++(CSUM++be4 4++t)):=by rw [e];exact List.drop_left' rfl
 have d8:(zbH l++t).drop 8=zdu l++(CSUM++be4 4++t):=by
  rw [show 8=4+4 from rfl,<-List.drop_drop,d4];exact List.drop_left' (zdU _)
 have n4:zdI (((zbH l++t).drop 4).take 4)=szL l-8:=by rw [d4,List.take_left' (zdU _)];exact zkp (by omega)
 unfold zfl;rw [if_neg (by omega),if_pos ⟨t4,by rw [n4,hlen]⟩,d8,zkf t ht l [] 17 (by omega) hfit];exact if_pos hd
theorem zmq {l:List Ch} (h:zbx l=0):zi4 (zbQ l)=l/\zfN (zbQ l)=0/\(zbQ l).length=szL l/\szL l<=16777216/\20<=szL l:=by
 unfold zbx at h;by_cases hd:dst l=true
 ·rw [if_pos hd]at h
  by_cases hc:16<l.length\/16777216<szL l
  ·rw [if_pos hc]at h;cases h
  ·have hl:l.length<=16:=by omega
   have hz:szL l<=16777216:=by omega
   have hv:zbQ l=zbH l++be4 (crc (zbH l)):=by unfold zbQ;rw [if_pos hd,if_neg hc];rfl
   have h4: ∀x,x∈l->x.1.size=4:=fun x hx=>(zjD hd x hx).1
   have hbl:=zjK h4;have hsz:=zhP h4;have hf:=zkD (t:=be4 (crc (zbH l))) hd hl hz (zdU _);rw [<-hv]at hf;have hlen:(zbQ l).length=szL l:=by rw [hv,zzq1,zdU];omega
   have ht:(zbQ l).take ((zbQ l).length-4)=zbH l:=by rw [hlen,hv];exact List.take_left' (by omega)
   have hdr:(zbQ l).drop ((zbQ l).length-4)=be4 (crc (zbH l)):=by rw [hlen,hv];exact List.drop_left' (by omega)
   unfold zi4 zfN;rw [if_neg (by omega),if_neg (by omega),hf,ht,hdr];exact⟨if_pos rfl,if_pos rfl,hlen,hz,by omega⟩
 ·rw [if_neg hd]at h;cases h
theorem zrQ {l:List Tm} (h:l.length-1<l.length):zgT l=l[l.length-1].kind:=by
 unfold zgT;rw [List.getLast?_eq_getElem?,zzq11 h]
def znk (f:Nat):Prop:= ∀(t:Tm) (so:Option Addr) (c:Nat) (w:World),SlAt w 9 (TmAt w f) so t.items->t.Ok ->
 Calls Tryz.prog 148 #[.agg #[.int .i64 t.kind,.int .i64 t.int,.int .i64 t.gen,.string t.name,.string t.func,.int .i64 t.arity,.slice so t.items.length c,.string t.bytes,.int .i64 t.bits]] w fun e w'=>e= .returned (.bool (zj (f+1) t))/\Below w.heap.size w w'
def zdB (f:Nat) (t:Tm) (so:Option Addr) (Wa:World) (A:Bool):Prop:= ∀(k:Nat) (wr:World) (hlt:k<t.items.length),Below Wa.heap.size Wa wr->A=(t.items.drop k).all (zj f) ->
 ∃b2 off ai ci,so=some ⟨b2,off,none⟩/\b2<wr.heap.size/\wr.cell? ⟨b2,off+k*9,none⟩=some (.int .i64 t.items[k].kind)/\wr.cell? ⟨b2,off+k*9+1,none⟩=some (.int .i64 t.items[k].int)/\wr.cell? ⟨b2,off+k*9+2,none⟩=some (.int .i64 t.items[k].gen)/\wr.cell? ⟨b2,off+k*9+3,none⟩=some (.string t.items[k].name)/\wr.cell? ⟨b2,off+k*9+4,none⟩=some (.string t.items[k].func)/\wr.cell? ⟨b2,off+k*9+5,none⟩=some (.int .i64 t.items[k].arity)/\wr.cell? ⟨b2,off+k*9+6,none⟩=some (.slice ai t.items[k].items.length ci)/\wr.cell? ⟨b2,off+k*9+7,none⟩=some (.string t.items[k].bytes)/\wr.cell? ⟨b2,off+k*9+8,none⟩=some (.int .i64 t.items[k].bits)/\ ∃r,(Calls Tryz.prog 148 #[.agg #[.int .i64 t.items[k].kind,.int .i64 t.items[k].int,.int .i64 t.items[k].gen,.string t.items[k].name,.string t.items[k].func,.int .i64 t.items[k].arity,.slice ai t.items[k].items.length ci,.string t.items[k].bytes,.int .i64 t.items[k].bits]] wr fun e w'=>e= .returned (.bool r)/\Below wr.heap.size wr w')/\A=(r&&(t.items.drop (k+1)).all (zj f))
def zc6 (f:Nat) (t:Tm) (so:Option Addr) (w:World):Prop:= ∀(Wa:World),Below w.heap.size w Wa->zdB f t so Wa (t.items.all (zj f))
theorem zot (f:Nat) (t:Tm) (so:zzA) (c:Nat) (w:World) (hok:t.Ok) (hrec:zc6 f t so w) (hz:zbE 0 (ze t).int (ze t).gen (ze t).name (ze t).func (ze t).arity (ze t).items.length (ze t).bytes (ze t).bits=false):
  Calls Tryz.prog 148 #[.agg (zzt t so c)] w fun e w'=>e= .returned (.bool (zj (f+1) t))/\Below w.heap.size w w':=by
 unfold zzt;obtain⟨ok0,ok1,ok2,ok3,ok4,ok5,ok6,ok7,ok8⟩:=hok;unfold maxLen at ok3 ok4 ok6 ok7;have HE:Hid (zj (f+1) t=((okK t&&zbE 0 (ze t).int (ze t).gen (ze t).name (ze t).func (ze t).arity (ze t).items.length (ze t).bytes (ze t).bits)&&t.items.all (zj f))):=zzH (by rw [zdn];rfl);have hZ:=fun so' c' wx=>zcB 0 (ze t).int (ze t).gen (ze t).name (ze t).func (ze t).arity so' (ze t).items.length c' (ze t).bytes (ze t).bits wx (zzY (zcp t) (by omega))
 have hB:=fun wx=>zcA t so c wx
 unfold zem at hB;generalize zbE 0 (ze t).int (ze t).gen (ze t).name (ze t).func (ze t).arity (ze t).items.length (ze t).bytes (ze t).bits=Z at *;generalize ze t=q at *;have HREC0:=zzH hrec;clear hrec;generalize zj (f+1) t=R at *;subst hz;go_in;go_upto_region 1 with fail;have hbx:=zbM w t so c;have hba:Below w.heap.size w (w.alloc (.cells (zzt t so c) 55)):=zzE _ _;generalize w.alloc (.cells (zzt t so c) 55)=Wa at *;have HREC:Hid (zdB f t so Wa (t.items.all (zj f))):=zzH (HREC0.out Wa hba);clear HREC0;generalize hBz:w.heap.size=B at *;refine zzK3 hBz hba hbx fun HBZ HBA HBX=>?_;clear hBz hba;have hlb:=zc hbx;obtain ⟨c0,c1,c2,c3,c4,c5,c6,c7,c8⟩:=zzc9 hbx;clear hbx;have HFIN:Hid (∀wx,Below Wa.heap.size Wa wx->Below B w wx):=zzH (fun wx hh=>HBA.out.trans (hh.mono (by have:=HBA.out.size;have:=HBZ.out;omega)));go_wp2_with fail;refine(hB _).mono ?_;rintro e w1 ⟨so',c',rfl,hb1⟩;go_wp2_with fail;refine(hZ so' c' _).mono ?_;rintro e w2 ⟨rfl,hb2⟩;clear hZ hB;have HB2:Hid (Below Wa.heap.size Wa w2):=zzH (zd hb1 hb2);clear hb1 hb2;go_wp2;go_ret;exact⟨zn (by rw [HE.out];cases okK t<;>rfl),by rw [HBZ.out];exact HFIN.out _ HB2.out⟩
theorem zqb (f:Nat) (t:Tm) (so:zzA) (c:Nat) (w:World) (hok:t.Ok) (hrec:zc6 f t so w) (hz:zbE 0 (ze t).int (ze t).gen (ze t).name (ze t).func (ze t).arity (ze t).items.length (ze t).bytes (ze t).bits=true) (hkd:t.kind=1):
  Calls Tryz.prog 148 #[.agg (zzt t so c)] w fun e w'=>e= .returned (.bool (zj (f+1) t))/\Below w.heap.size w w':=by
 unfold zzt;have HKD:=zzH hkd;clear hkd;obtain⟨ok0,ok1,ok2,ok3,ok4,ok5,ok6,ok7,ok8⟩:=hok;unfold maxLen at ok3 ok4 ok6 ok7;have HE:Hid (zj (f+1) t=((okK t&&zbE 0 (ze t).int (ze t).gen (ze t).name (ze t).func (ze t).arity (ze t).items.length (ze t).bytes (ze t).bits)&&t.items.all (zj f))):=zzH (by rw [zdn];rfl);have hZ:=fun so' c' wx=>zcB 0 (ze t).int (ze t).gen (ze t).name (ze t).func (ze t).arity so' (ze t).items.length c' (ze t).bytes (ze t).bits wx (zzY (zcp t) (by omega))
 have hB:=fun wx=>zcA t so c wx
 unfold zem at hB;generalize zbE 0 (ze t).int (ze t).gen (ze t).name (ze t).func (ze t).arity (ze t).items.length (ze t).bytes (ze t).bits=Z at *;generalize ze t=q at *;have HREC0:=zzH hrec;clear hrec;generalize zj (f+1) t=R at *;subst hz;go_in;go_upto_region 1 with fail;have hbx:=zbM w t so c;have hba:Below w.heap.size w (w.alloc (.cells (zzt t so c) 55)):=zzE _ _;generalize w.alloc (.cells (zzt t so c) 55)=Wa at *;have HREC:Hid (zdB f t so Wa (t.items.all (zj f))):=zzH (HREC0.out Wa hba);clear HREC0;generalize hBz:w.heap.size=B at *;refine zzK3 hBz hba hbx fun HBZ HBA HBX=>?_;clear hBz hba;have hlb:=zc hbx;obtain ⟨c0,c1,c2,c3,c4,c5,c6,c7,c8⟩:=zzc9 hbx;clear hbx;have HFIN:Hid (∀wx,Below Wa.heap.size Wa wx->Below B w wx):=zzH (fun wx hh=>HBA.out.trans (hh.mono (by have:=HBA.out.size;have:=HBZ.out;omega)));go_wp2_with fail;refine(hB _).mono ?_;rintro e w1 ⟨so',c',rfl,hb1⟩;go_wp2_with fail;refine(hZ so' c' _).mono ?_;rintro e w2 ⟨rfl,hb2⟩;clear hZ hB;have HB2:Hid (Below Wa.heap.size Wa w2):=zzH (zd hb1 hb2);clear hb1 hb2;have HET:Hid (∀A,t.items.all (zj f)=A->R=(okK t&&A)):=zzH (fun A h=>by rw [HE.out,h,Bool.and_true]);clear HE;have HAK:Hid (t.items.all (zj f)=(t.items.drop 0).all (zj f)):=zzH rfl;generalize t.items.all (zj f)=A at HREC HET HAK;go_wp2_with fail;go_loopw [3] (fun iv wr=> ∃(k:Nat),k<=t.items.length/\iv= .int .i64 k/\Hid (A=(t.items.drop k).all (zj f))/\Hid (Below Wa.heap.size Wa wr)) (fun iv _=>t.items.length-(intOf iv).toNat)
 case atStart=>exact⟨0,zzZ _,rfl,HAK,HB2⟩
 case round=>
  exact zz170
theorem zqm (f:Nat) (t:Tm) (so:zzA) (c:Nat) (w:World) (hok:t.Ok) (hrec:zc6 f t so w) (hz:zbE 0 (ze t).int (ze t).gen (ze t).name (ze t).func (ze t).arity (ze t).items.length (ze t).bytes (ze t).bits=true) (hkd:t.kind=8):
  Calls Tryz.prog 148 #[.agg (zzt t so c)] w fun e w'=>e= .returned (.bool (zj (f+1) t))/\Below w.heap.size w w':=by
 unfold zzt;have HKD:=zzH hkd;clear hkd;obtain⟨ok0,ok1,ok2,ok3,ok4,ok5,ok6,ok7,ok8⟩:=hok;unfold maxLen at ok3 ok4 ok6 ok7;have HE:Hid (zj (f+1) t=((okK t&&zbE 0 (ze t).int (ze t).gen (ze t).name (ze t).func (ze t).arity (ze t).items.length (ze t).bytes (ze t).bits)&&t.items.all (zj f))):=zzH (by rw [zdn];rfl);have hZ:=fun so' c' wx=>zcB 0 (ze t).int (ze t).gen (ze t).name (ze t).func (ze t).arity so' (ze t).items.length c' (ze t).bytes (ze t).bits wx (zzY (zcp t) (by omega))
 have hB:=fun wx=>zcA t so c wx
 unfold zem at hB;generalize zbE 0 (ze t).int (ze t).gen (ze t).name (ze t).func (ze t).arity (ze t).items.length (ze t).bytes (ze t).bits=Z at *;generalize ze t=q at *;have HREC0:=zzH hrec;clear hrec;generalize zj (f+1) t=R at *;subst hz;go_in;go_upto_region 1 with fail;have hbx:=zbM w t so c;have hba:Below w.heap.size w (w.alloc (.cells (zzt t so c) 55)):=zzE _ _;generalize w.alloc (.cells (zzt t so c) 55)=Wa at *;have HREC:Hid (zdB f t so Wa (t.items.all (zj f))):=zzH (HREC0.out Wa hba);clear HREC0;generalize hBz:w.heap.size=B at *;refine zzK3 hBz hba hbx fun HBZ HBA HBX=>?_;clear hBz hba;have hlb:=zc hbx;obtain ⟨c0,c1,c2,c3,c4,c5,c6,c7,c8⟩:=zzc9 hbx;clear hbx;have HFIN:Hid (∀wx,Below Wa.heap.size Wa wx->Below B w wx):=zzH (fun wx hh=>HBA.out.trans (hh.mono (by have:=HBA.out.size;have:=HBZ.out;omega)));go_wp2_with fail;refine(hB _).mono ?_;rintro e w1 ⟨so',c',rfl,hb1⟩;go_wp2_with fail;refine(hZ so' c' _).mono ?_;rintro e w2 ⟨rfl,hb2⟩;clear hZ hB;have HB2:Hid (Below Wa.heap.size Wa w2):=zzH (zd hb1 hb2);clear hb1 hb2;have HET:Hid (∀A,t.items.all (zj f)=A->R=(okK t&&A)):=zzH (fun A h=>by rw [HE.out,h,Bool.and_true]);clear HE;have HAK:Hid (t.items.all (zj f)=(t.items.drop 0).all (zj f)):=zzH rfl;generalize t.items.all (zj f)=A at HREC HET HAK;go_wp2_with fail;go_loopw [3] (fun iv wr=> ∃(k:Nat),k<=t.items.length/\iv= .int .i64 k/\Hid (A=(t.items.drop k).all (zj f))/\Hid (Below Wa.heap.size Wa wr)) (fun iv _=>t.items.length-(intOf iv).toNat)
 case atStart=>exact⟨0,zzZ _,rfl,HAK,HB2⟩
 case round=>
  exact zz170
theorem zoW (f:Nat) (t:Tm) (so:zzA) (c:Nat) (w:World) (hok:t.Ok) (hrec:zc6 f t so w) (hz:zbE 0 (ze t).int (ze t).gen (ze t).name (ze t).func (ze t).arity (ze t).items.length (ze t).bytes (ze t).bits=true) (hkd:t.kind=2):
  Calls Tryz.prog 148 #[.agg (zzt t so c)] w fun e w'=>e= .returned (.bool (zj (f+1) t))/\Below w.heap.size w w':=by
 unfold zzt;have HKD:=zzH hkd;clear hkd;obtain⟨ok0,ok1,ok2,ok3,ok4,ok5,ok6,ok7,ok8⟩:=hok;unfold maxLen at ok3 ok4 ok6 ok7;have HE:Hid (zj (f+1) t=((okK t&&zbE 0 (ze t).int (ze t).gen (ze t).name (ze t).func (ze t).arity (ze t).items.length (ze t).bytes (ze t).bits)&&t.items.all (zj f))):=zzH (by rw [zdn];rfl);have hZ:=fun so' c' wx=>zcB 0 (ze t).int (ze t).gen (ze t).name (ze t).func (ze t).arity so' (ze t).items.length c' (ze t).bytes (ze t).bits wx (zzY (zcp t) (by omega))
 have hB:=fun wx=>zcA t so c wx
 unfold zem at hB;generalize zbE 0 (ze t).int (ze t).gen (ze t).name (ze t).func (ze t).arity (ze t).items.length (ze t).bytes (ze t).bits=Z at *;generalize ze t=q at *;have HREC0:=zzH hrec;clear hrec;generalize zj (f+1) t=R at *;subst hz;go_in;go_upto_region 1 with fail;have hbx:=zbM w t so c;have hba:Below w.heap.size w (w.alloc (.cells (zzt t so c) 55)):=zzE _ _;generalize w.alloc (.cells (zzt t so c) 55)=Wa at *;have HREC:Hid (zdB f t so Wa (t.items.all (zj f))):=zzH (HREC0.out Wa hba);clear HREC0;generalize hBz:w.heap.size=B at *;refine zzK3 hBz hba hbx fun HBZ HBA HBX=>?_;clear hBz hba;have hlb:=zc hbx;obtain ⟨c0,c1,c2,c3,c4,c5,c6,c7,c8⟩:=zzc9 hbx;clear hbx;have HFIN:Hid (∀wx,Below Wa.heap.size Wa wx->Below B w wx):=zzH (fun wx hh=>HBA.out.trans (hh.mono (by have:=HBA.out.size;have:=HBZ.out;omega)));go_wp2_with fail;refine(hB _).mono ?_;rintro e w1 ⟨so',c',rfl,hb1⟩;go_wp2_with fail;refine(hZ so' c' _).mono ?_;rintro e w2 ⟨rfl,hb2⟩;clear hZ hB;have HB2:Hid (Below Wa.heap.size Wa w2):=zzH (zd hb1 hb2);clear hb1 hb2;have HET:Hid (∀A,t.items.all (zj f)=A->R=(okK t&&A)):=zzH (fun A h=>by rw [HE.out,h,Bool.and_true]);clear HE;have HAK:Hid (t.items.all (zj f)=(t.items.drop 0).all (zj f)):=zzH rfl;generalize t.items.all (zj f)=A at HREC HET HAK;go_wp2_with fail;go_loopw [3] (fun iv wr=> ∃(k:Nat),k<=t.items.length/\iv= .int .i64 k/\Hid (A=(t.items.drop k).all (zj f))/\Hid (Below Wa.heap.size Wa wr)) (fun iv _=>t.items.length-(intOf iv).toNat)
 case atStart=>exact⟨0,zzZ _,rfl,HAK,HB2⟩
 case round=>
  obtain⟨k,hk,rfl,HK,HBk⟩:=hrel;rename World=>wr
  clear c0 c1 c2 c3 c4 c5 c6 c7 c8;have hb1:=(HBk.out.block B (zc HBX.out)).trans HBX.out;have hlb1:=zc hb1;obtain ⟨c0,c1,c2,c3,c4,c5,c6,c7,c8⟩:=zzc9 hb1;clear hb1;by_cases hlt:k<t.items.length
  ·exact zz171
  ·have E:Hid (R=okK t):=zzH (by rw [HET.out A rfl,HK.out,zzq8 (by omega)];simp)
   have hkd:=HKD.out;have hE:=E.out;have e2:okK t=(zw t.name):=by unfold okK;simp [hkd,Bool.and_assoc]
   rw [e2]at hE;rw [hkd]at c0;clear e2 E HKD hkd;have h0:=fun wx=>zdE t.name wx (by unfold maxLen;omega)
   generalize zw t.name=b0 at *;have E:=zzH hE;clear hE;go_wp2_with (first|(go_at_call 121;first|((with_reducible refine(h0 _).mono ?_);rintro e w9 ⟨rfl,rfl⟩)));go_ret;exact⟨zn (by rw [E.out];try simp),by rw [HBZ.out];exact HFIN.out _ HBk.out⟩
theorem zqQ (f:Nat) (t:Tm) (so:zzA) (c:Nat) (w:World) (hok:t.Ok) (hrec:zc6 f t so w) (hz:zbE 0 (ze t).int (ze t).gen (ze t).name (ze t).func (ze t).arity (ze t).items.length (ze t).bytes (ze t).bits=true) (hkd:t.kind=3):
  Calls Tryz.prog 148 #[.agg (zzt t so c)] w fun e w'=>e= .returned (.bool (zj (f+1) t))/\Below w.heap.size w w':=by
 unfold zzt;have HKD:=zzH hkd;clear hkd;obtain⟨ok0,ok1,ok2,ok3,ok4,ok5,ok6,ok7,ok8⟩:=hok;unfold maxLen at ok3 ok4 ok6 ok7;have HE:Hid (zj (f+1) t=((okK t&&zbE 0 (ze t).int (ze t).gen (ze t).name (ze t).func (ze t).arity (ze t).items.length (ze t).bytes (ze t).bits)&&t.items.all (zj f))):=zzH (by rw [zdn];rfl);have hZ:=fun so' c' wx=>zcB 0 (ze t).int (ze t).gen (ze t).name (ze t).func (ze t).arity so' (ze t).items.length c' (ze t).bytes (ze t).bits wx (zzY (zcp t) (by omega))
 have hB:=fun wx=>zcA t so c wx
 unfold zem at hB;generalize zbE 0 (ze t).int (ze t).gen (ze t).name (ze t).func (ze t).arity (ze t).items.length (ze t).bytes (ze t).bits=Z at *;generalize ze t=q at *;have HREC0:=zzH hrec;clear hrec;generalize zj (f+1) t=R at *;subst hz;go_in;go_upto_region 1 with fail;have hbx:=zbM w t so c;have hba:Below w.heap.size w (w.alloc (.cells (zzt t so c) 55)):=zzE _ _;generalize w.alloc (.cells (zzt t so c) 55)=Wa at *;have HREC:Hid (zdB f t so Wa (t.items.all (zj f))):=zzH (HREC0.out Wa hba);clear HREC0;generalize hBz:w.heap.size=B at *;refine zzK3 hBz hba hbx fun HBZ HBA HBX=>?_;clear hBz hba;have hlb:=zc hbx;obtain ⟨c0,c1,c2,c3,c4,c5,c6,c7,c8⟩:=zzc9 hbx;clear hbx;have HFIN:Hid (∀wx,Below Wa.heap.size Wa wx->Below B w wx):=zzH (fun wx hh=>HBA.out.trans (hh.mono (by have:=HBA.out.size;have:=HBZ.out;omega)));go_wp2_with fail;refine(hB _).mono ?_;rintro e w1 ⟨so',c',rfl,hb1⟩;go_wp2_with fail;refine(hZ so' c' _).mono ?_;rintro e w2 ⟨rfl,hb2⟩;clear hZ hB;have HB2:Hid (Below Wa.heap.size Wa w2):=zzH (zd hb1 hb2);clear hb1 hb2;have HET:Hid (∀A,t.items.all (zj f)=A->R=(okK t&&A)):=zzH (fun A h=>by rw [HE.out,h,Bool.and_true]);clear HE;have HAK:Hid (t.items.all (zj f)=(t.items.drop 0).all (zj f)):=zzH rfl;generalize t.items.all (zj f)=A at HREC HET HAK;go_wp2_with fail;go_loopw [3] (fun iv wr=> ∃(k:Nat),k<=t.items.length/\iv= .int .i64 k/\Hid (A=(t.items.drop k).all (zj f))/\Hid (Below Wa.heap.size Wa wr)) (fun iv _=>t.items.length-(intOf iv).toNat)
 case atStart=>exact⟨0,zzZ _,rfl,HAK,HB2⟩
 case round=>
  exact zz172
theorem zqt (f:Nat) (t:Tm) (so:zzA) (c:Nat) (w:World) (hok:t.Ok) (hrec:zc6 f t so w) (hz:zbE 0 (ze t).int (ze t).gen (ze t).name (ze t).func (ze t).arity (ze t).items.length (ze t).bytes (ze t).bits=true) (hkd:t.kind=6):
  Calls Tryz.prog 148 #[.agg (zzt t so c)] w fun e w'=>e= .returned (.bool (zj (f+1) t))/\Below w.heap.size w w':=by
 unfold zzt;have HKD:=zzH hkd;clear hkd;obtain⟨ok0,ok1,ok2,ok3,ok4,ok5,ok6,ok7,ok8⟩:=hok;unfold maxLen at ok3 ok4 ok6 ok7;have HE:Hid (zj (f+1) t=((okK t&&zbE 0 (ze t).int (ze t).gen (ze t).name (ze t).func (ze t).arity (ze t).items.length (ze t).bytes (ze t).bits)&&t.items.all (zj f))):=zzH (by rw [zdn];rfl);have hZ:=fun so' c' wx=>zcB 0 (ze t).int (ze t).gen (ze t).name (ze t).func (ze t).arity so' (ze t).items.length c' (ze t).bytes (ze t).bits wx (zzY (zcp t) (by omega))
 have hB:=fun wx=>zcA t so c wx
 unfold zem at hB;generalize zbE 0 (ze t).int (ze t).gen (ze t).name (ze t).func (ze t).arity (ze t).items.length (ze t).bytes (ze t).bits=Z at *;generalize ze t=q at *;have HREC0:=zzH hrec;clear hrec;generalize zj (f+1) t=R at *;subst hz;go_in;go_upto_region 1 with fail;have hbx:=zbM w t so c;have hba:Below w.heap.size w (w.alloc (.cells (zzt t so c) 55)):=zzE _ _;generalize w.alloc (.cells (zzt t so c) 55)=Wa at *;have HREC:Hid (zdB f t so Wa (t.items.all (zj f))):=zzH (HREC0.out Wa hba);clear HREC0;generalize hBz:w.heap.size=B at *;refine zzK3 hBz hba hbx fun HBZ HBA HBX=>?_;clear hBz hba;have hlb:=zc hbx;obtain ⟨c0,c1,c2,c3,c4,c5,c6,c7,c8⟩:=zzc9 hbx;clear hbx;have HFIN:Hid (∀wx,Below Wa.heap.size Wa wx->Below B w wx):=zzH (fun wx hh=>HBA.out.trans (hh.mono (by have:=HBA.out.size;have:=HBZ.out;omega)));go_wp2_with fail;refine(hB _).mono ?_;rintro e w1 ⟨so',c',rfl,hb1⟩;go_wp2_with fail;refine(hZ so' c' _).mono ?_;rintro e w2 ⟨rfl,hb2⟩;clear hZ hB;have HB2:Hid (Below Wa.heap.size Wa w2):=zzH (zd hb1 hb2);clear hb1 hb2;have HET:Hid (∀A,t.items.all (zj f)=A->R=(okK t&&A)):=zzH (fun A h=>by rw [HE.out,h,Bool.and_true]);clear HE;have HAK:Hid (t.items.all (zj f)=(t.items.drop 0).all (zj f)):=zzH rfl;generalize t.items.all (zj f)=A at HREC HET HAK;go_wp2_with fail;go_loopw [3] (fun iv wr=> ∃(k:Nat),k<=t.items.length/\iv= .int .i64 k/\Hid (A=(t.items.drop k).all (zj f))/\Hid (Below Wa.heap.size Wa wr)) (fun iv _=>t.items.length-(intOf iv).toNat)
 case atStart=>exact⟨0,zzZ _,rfl,HAK,HB2⟩
 case round=>
  exact zz172
theorem zlK (f:Nat) (t:Tm) (so:zzA) (c:Nat) (w:World) (hok:t.Ok) (hrec:zc6 f t so w) (hz:zbE 0 (ze t).int (ze t).gen (ze t).name (ze t).func (ze t).arity (ze t).items.length (ze t).bytes (ze t).bits=true) (hkd:t.kind=5):
  Calls Tryz.prog 148 #[.agg (zzt t so c)] w fun e w'=>e= .returned (.bool (zj (f+1) t))/\Below w.heap.size w w':=by
 unfold zzt;have HKD:=zzH hkd;clear hkd;obtain⟨ok0,ok1,ok2,ok3,ok4,ok5,ok6,ok7,ok8⟩:=hok;unfold maxLen at ok3 ok4 ok6 ok7;have HE:Hid (zj (f+1) t=((okK t&&zbE 0 (ze t).int (ze t).gen (ze t).name (ze t).func (ze t).arity (ze t).items.length (ze t).bytes (ze t).bits)&&t.items.all (zj f))):=zzH (by rw [zdn];rfl);have hZ:=fun so' c' wx=>zcB 0 (ze t).int (ze t).gen (ze t).name (ze t).func (ze t).arity so' (ze t).items.length c' (ze t).bytes (ze t).bits wx (zzY (zcp t) (by omega))
 have hB:=fun wx=>zcA t so c wx
 unfold zem at hB;generalize zbE 0 (ze t).int (ze t).gen (ze t).name (ze t).func (ze t).arity (ze t).items.length (ze t).bytes (ze t).bits=Z at *;generalize ze t=q at *;have HREC0:=zzH hrec;clear hrec;generalize zj (f+1) t=R at *;subst hz;go_in;go_upto_region 1 with fail;have hbx:=zbM w t so c;have hba:Below w.heap.size w (w.alloc (.cells (zzt t so c) 55)):=zzE _ _;generalize w.alloc (.cells (zzt t so c) 55)=Wa at *;have HREC:Hid (zdB f t so Wa (t.items.all (zj f))):=zzH (HREC0.out Wa hba);clear HREC0;generalize hBz:w.heap.size=B at *;refine zzK3 hBz hba hbx fun HBZ HBA HBX=>?_;clear hBz hba;have hlb:=zc hbx;obtain ⟨c0,c1,c2,c3,c4,c5,c6,c7,c8⟩:=zzc9 hbx;clear hbx;have HFIN:Hid (∀wx,Below Wa.heap.size Wa wx->Below B w wx):=zzH (fun wx hh=>HBA.out.trans (hh.mono (by have:=HBA.out.size;have:=HBZ.out;omega)));go_wp2_with fail;refine(hB _).mono ?_;rintro e w1 ⟨so',c',rfl,hb1⟩;go_wp2_with fail;refine(hZ so' c' _).mono ?_;rintro e w2 ⟨rfl,hb2⟩;clear hZ hB;have HB2:Hid (Below Wa.heap.size Wa w2):=zzH (zd hb1 hb2);clear hb1 hb2;have HET:Hid (∀A,t.items.all (zj f)=A->R=(okK t&&A)):=zzH (fun A h=>by rw [HE.out,h,Bool.and_true]);clear HE;have HAK:Hid (t.items.all (zj f)=(t.items.drop 0).all (zj f)):=zzH rfl;generalize t.items.all (zj f)=A at HREC HET HAK;go_wp2_with fail;go_loopw [3] (fun iv wr=> ∃(k:Nat),k<=t.items.length/\iv= .int .i64 k/\Hid (A=(t.items.drop k).all (zj f))/\Hid (Below Wa.heap.size Wa wr)) (fun iv _=>t.items.length-(intOf iv).toNat)
 case atStart=>exact⟨0,zzZ _,rfl,HAK,HB2⟩
 case round=>
  obtain⟨k,hk,rfl,HK,HBk⟩:=hrel;rename World=>wr
  clear c0 c1 c2 c3 c4 c5 c6 c7 c8;have hb1:=(HBk.out.block B (zc HBX.out)).trans HBX.out;have hlb1:=zc hb1;obtain ⟨c0,c1,c2,c3,c4,c5,c6,c7,c8⟩:=zzc9 hb1;clear hb1;by_cases hlt:k<t.items.length
  ·exact zz171
  ·have E:Hid (R=okK t):=zzH (by rw [HET.out A rfl,HK.out,zzq8 (by omega)];simp)
   have hkd:=HKD.out;have hE:=E.out;have e2:okK t=(zw t.name&&zw t.func&&wi t.arity 0 16):=by unfold okK;simp [hkd,Bool.and_assoc]
   rw [e2]at hE;rw [hkd]at c0;clear e2 E HKD hkd;have h0:=fun wx=>zdE t.name wx (by unfold maxLen;omega)
   have h1:=fun wx=>zdE t.func wx (by unfold maxLen;omega)
   have h2:=fun wx=>zdC t.arity 0 16 wx
   generalize zw t.name=b0 at *;generalize zw t.func=b1 at *;generalize wi t.arity 0 16=b2 at *;have E:=zzH hE;clear hE
   cases b0 with
   |false=>
    exact zz173
   |true=>
    cases b1 with
    |false=>
     exact zz173
    |true=>
     exact zz173
theorem zpB (f:Nat) (t:Tm) (so:zzA) (c:Nat) (w:World) (hok:t.Ok) (hrec:zc6 f t so w) (hz:zbE 0 (ze t).int (ze t).gen (ze t).name (ze t).func (ze t).arity (ze t).items.length (ze t).bytes (ze t).bits=true) (hkd:t.kind=10):
  Calls Tryz.prog 148 #[.agg (zzt t so c)] w fun e w'=>e= .returned (.bool (zj (f+1) t))/\Below w.heap.size w w':=by
 unfold zzt;have HKD:=zzH hkd;clear hkd;obtain⟨ok0,ok1,ok2,ok3,ok4,ok5,ok6,ok7,ok8⟩:=hok;unfold maxLen at ok3 ok4 ok6 ok7;have HE:Hid (zj (f+1) t=((okK t&&zbE 0 (ze t).int (ze t).gen (ze t).name (ze t).func (ze t).arity (ze t).items.length (ze t).bytes (ze t).bits)&&t.items.all (zj f))):=zzH (by rw [zdn];rfl);have hZ:=fun so' c' wx=>zcB 0 (ze t).int (ze t).gen (ze t).name (ze t).func (ze t).arity so' (ze t).items.length c' (ze t).bytes (ze t).bits wx (zzY (zcp t) (by omega))
 have hB:=fun wx=>zcA t so c wx
 unfold zem at hB;generalize zbE 0 (ze t).int (ze t).gen (ze t).name (ze t).func (ze t).arity (ze t).items.length (ze t).bytes (ze t).bits=Z at *;generalize ze t=q at *;have HREC0:=zzH hrec;clear hrec;generalize zj (f+1) t=R at *;subst hz;go_in;go_upto_region 1 with fail;have hbx:=zbM w t so c;have hba:Below w.heap.size w (w.alloc (.cells (zzt t so c) 55)):=zzE _ _;generalize w.alloc (.cells (zzt t so c) 55)=Wa at *;have HREC:Hid (zdB f t so Wa (t.items.all (zj f))):=zzH (HREC0.out Wa hba);clear HREC0;generalize hBz:w.heap.size=B at *;refine zzK3 hBz hba hbx fun HBZ HBA HBX=>?_;clear hBz hba;have hlb:=zc hbx;obtain ⟨c0,c1,c2,c3,c4,c5,c6,c7,c8⟩:=zzc9 hbx;clear hbx;have HFIN:Hid (∀wx,Below Wa.heap.size Wa wx->Below B w wx):=zzH (fun wx hh=>HBA.out.trans (hh.mono (by have:=HBA.out.size;have:=HBZ.out;omega)));go_wp2_with fail;refine(hB _).mono ?_;rintro e w1 ⟨so',c',rfl,hb1⟩;go_wp2_with fail;refine(hZ so' c' _).mono ?_;rintro e w2 ⟨rfl,hb2⟩;clear hZ hB;have HB2:Hid (Below Wa.heap.size Wa w2):=zzH (zd hb1 hb2);clear hb1 hb2;have HET:Hid (∀A,t.items.all (zj f)=A->R=(okK t&&A)):=zzH (fun A h=>by rw [HE.out,h,Bool.and_true]);clear HE;have HAK:Hid (t.items.all (zj f)=(t.items.drop 0).all (zj f)):=zzH rfl;generalize t.items.all (zj f)=A at HREC HET HAK;go_wp2_with fail;go_loopw [3] (fun iv wr=> ∃(k:Nat),k<=t.items.length/\iv= .int .i64 k/\Hid (A=(t.items.drop k).all (zj f))/\Hid (Below Wa.heap.size Wa wr)) (fun iv _=>t.items.length-(intOf iv).toNat)
 case atStart=>exact⟨0,zzZ _,rfl,HAK,HB2⟩
 case round=>
  obtain⟨k,hk,rfl,HK,HBk⟩:=hrel;rename World=>wr
  clear c0 c1 c2 c3 c4 c5 c6 c7 c8;have hb1:=(HBk.out.block B (zc HBX.out)).trans HBX.out;have hlb1:=zc hb1;obtain ⟨c0,c1,c2,c3,c4,c5,c6,c7,c8⟩:=zzc9 hb1;clear hb1;by_cases hlt:k<t.items.length
  ·exact zz171
  ·have E:Hid (R=okK t):=zzH (by rw [HET.out A rfl,HK.out,zzq8 (by omega)];simp)
   have hkd:=HKD.out;have e2:okK t=zcf t.bytes t.bits:=by unfold okK zgy;simp [hkd]
   rw [hkd]at c0;have E2:=zzH (E.out.trans e2);clear E HKD hkd e2;go_wp2_with fail;refine(zo6 _ _ _ _ _ _ _ _ _ _ _ _ ok7 ok8).mono ?_;rintro e9 w7 ⟨rfl,hb7⟩;go_wp2;go_ret;exact⟨zn E2.out.symm,by rw [HBZ.out];exact HFIN.out _ (zd HBk.out hb7)⟩
theorem znO (f:Nat) (t:Tm) (so:zzA) (c:Nat) (w:World) (hok:t.Ok) (hrec:zc6 f t so w) (hz:zbE 0 (ze t).int (ze t).gen (ze t).name (ze t).func (ze t).arity (ze t).items.length (ze t).bytes (ze t).bits=true) (hkd: ¬(t.kind=1\/t.kind=2\/t.kind=3\/t.kind=4\/t.kind=5\/t.kind=6\/t.kind=7\/t.kind=8\/t.kind=9\/t.kind=10)):
  Calls Tryz.prog 148 #[.agg (zzt t so c)] w fun e w'=>e= .returned (.bool (zj (f+1) t))/\Below w.heap.size w w':=by
 unfold zzt;have HKD:=zzH hkd;clear hkd;obtain⟨ok0,ok1,ok2,ok3,ok4,ok5,ok6,ok7,ok8⟩:=hok;unfold maxLen at ok3 ok4 ok6 ok7;have HE:Hid (zj (f+1) t=((okK t&&zbE 0 (ze t).int (ze t).gen (ze t).name (ze t).func (ze t).arity (ze t).items.length (ze t).bytes (ze t).bits)&&t.items.all (zj f))):=zzH (by rw [zdn];rfl);have hZ:=fun so' c' wx=>zcB 0 (ze t).int (ze t).gen (ze t).name (ze t).func (ze t).arity so' (ze t).items.length c' (ze t).bytes (ze t).bits wx (zzY (zcp t) (by omega))
 have hB:=fun wx=>zcA t so c wx
 unfold zem at hB;generalize zbE 0 (ze t).int (ze t).gen (ze t).name (ze t).func (ze t).arity (ze t).items.length (ze t).bytes (ze t).bits=Z at *;generalize ze t=q at *;have HREC0:=zzH hrec;clear hrec;generalize zj (f+1) t=R at *;subst hz;go_in;go_upto_region 1 with fail;have hbx:=zbM w t so c;have hba:Below w.heap.size w (w.alloc (.cells (zzt t so c) 55)):=zzE _ _;generalize w.alloc (.cells (zzt t so c) 55)=Wa at *;have HREC:Hid (zdB f t so Wa (t.items.all (zj f))):=zzH (HREC0.out Wa hba);clear HREC0;generalize hBz:w.heap.size=B at *;refine zzK3 hBz hba hbx fun HBZ HBA HBX=>?_;clear hBz hba;have hlb:=zc hbx;obtain ⟨c0,c1,c2,c3,c4,c5,c6,c7,c8⟩:=zzc9 hbx;clear hbx;have HFIN:Hid (∀wx,Below Wa.heap.size Wa wx->Below B w wx):=zzH (fun wx hh=>HBA.out.trans (hh.mono (by have:=HBA.out.size;have:=HBZ.out;omega)));go_wp2_with fail;refine(hB _).mono ?_;rintro e w1 ⟨so',c',rfl,hb1⟩;go_wp2_with fail;refine(hZ so' c' _).mono ?_;rintro e w2 ⟨rfl,hb2⟩;clear hZ hB;have HB2:Hid (Below Wa.heap.size Wa w2):=zzH (zd hb1 hb2);clear hb1 hb2;have HET:Hid (∀A,t.items.all (zj f)=A->R=(okK t&&A)):=zzH (fun A h=>by rw [HE.out,h,Bool.and_true]);clear HE;have HAK:Hid (t.items.all (zj f)=(t.items.drop 0).all (zj f)):=zzH rfl;generalize t.items.all (zj f)=A at HREC HET HAK;go_wp2_with fail;go_loopw [3] (fun iv wr=> ∃(k:Nat),k<=t.items.length/\iv= .int .i64 k/\Hid (A=(t.items.drop k).all (zj f))/\Hid (Below Wa.heap.size Wa wr)) (fun iv _=>t.items.length-(intOf iv).toNat)
 case atStart=>exact⟨0,zzZ _,rfl,HAK,HB2⟩
 case round=>
  obtain⟨k,hk,rfl,HK,HBk⟩:=hrel;rename World=>wr
  clear c0 c1 c2 c3 c4 c5 c6 c7 c8;have hb1:=(HBk.out.block B (zc HBX.out)).trans HBX.out;have hlb1:=zc hb1;obtain ⟨c0,c1,c2,c3,c4,c5,c6,c7,c8⟩:=zzc9 hb1;clear hb1;by_cases hlt:k<t.items.length
  ·exact zz171
  ·have E:Hid (R=okK t):=zzH (by rw [HET.out A rfl,HK.out,zzq8 (by omega)];simp)
   have hkd:=HKD.out;have E2:=zzH (E.out.trans (zeD hkd));have t1:(t.kind==1)=false:=zzB.2 (fun e=>hkd (by omega));have t2:(t.kind==2)=false:=zzB.2 (fun e=>hkd (by omega));have t3:(t.kind==3)=false:=zzB.2 (fun e=>hkd (by omega));have t4:(t.kind==4)=false:=zzB.2 (fun e=>hkd (by omega));have t5:(t.kind==5)=false:=zzB.2 (fun e=>hkd (by omega));have t6:(t.kind==6)=false:=zzB.2 (fun e=>hkd (by omega));have t7:(t.kind==7)=false:=zzB.2 (fun e=>hkd (by omega));have t8:(t.kind==8)=false:=zzB.2 (fun e=>hkd (by omega));have t9:(t.kind==9)=false:=zzB.2 (fun e=>hkd (by omega));have t10:(t.kind==10)=false:=zzB.2 (fun e=>hkd (by omega));clear hkd HKD E;go_wp2;go_ret;exact⟨zn E2.out.symm,by rw [HBZ.out];exact HFIN.out _ HBk.out⟩
theorem zmS (f:Nat) (t:Tm) (so:zzA) (c:Nat) (w:World) (hok:t.Ok) (hrec:zc6 f t so w) (hz:zbE 0 (ze t).int (ze t).gen (ze t).name (ze t).func (ze t).arity (ze t).items.length (ze t).bytes (ze t).bits=true) (hkd:t.kind=7):
  Calls Tryz.prog 148 #[.agg (zzt t so c)] w fun e w'=>e= .returned (.bool (zj (f+1) t))/\Below w.heap.size w w':=by
 unfold zzt;have HKD:=zzH hkd;clear hkd;obtain⟨ok0,ok1,ok2,ok3,ok4,ok5,ok6,ok7,ok8⟩:=hok;unfold maxLen at ok3 ok4 ok6 ok7;have HE:Hid (zj (f+1) t=((okK t&&zbE 0 (ze t).int (ze t).gen (ze t).name (ze t).func (ze t).arity (ze t).items.length (ze t).bytes (ze t).bits)&&t.items.all (zj f))):=zzH (by rw [zdn];rfl);have hZ:=fun so' c' wx=>zcB 0 (ze t).int (ze t).gen (ze t).name (ze t).func (ze t).arity so' (ze t).items.length c' (ze t).bytes (ze t).bits wx (zzY (zcp t) (by omega))
 have hB:=fun wx=>zcA t so c wx
 unfold zem at hB;generalize zbE 0 (ze t).int (ze t).gen (ze t).name (ze t).func (ze t).arity (ze t).items.length (ze t).bytes (ze t).bits=Z at *;generalize ze t=q at *;have HREC0:=zzH hrec;clear hrec;generalize zj (f+1) t=R at *;subst hz;go_in;go_upto_region 1 with fail;have hbx:=zbM w t so c;have hba:Below w.heap.size w (w.alloc (.cells (zzt t so c) 55)):=zzE _ _;generalize w.alloc (.cells (zzt t so c) 55)=Wa at *;have HREC:Hid (zdB f t so Wa (t.items.all (zj f))):=zzH (HREC0.out Wa hba);clear HREC0;generalize hBz:w.heap.size=B at *;refine zzK3 hBz hba hbx fun HBZ HBA HBX=>?_;clear hBz hba;have hlb:=zc hbx;obtain ⟨c0,c1,c2,c3,c4,c5,c6,c7,c8⟩:=zzc9 hbx;clear hbx;have HFIN:Hid (∀wx,Below Wa.heap.size Wa wx->Below B w wx):=zzH (fun wx hh=>HBA.out.trans (hh.mono (by have:=HBA.out.size;have:=HBZ.out;omega)));go_wp2_with fail;refine(hB _).mono ?_;rintro e w1 ⟨so',c',rfl,hb1⟩;go_wp2_with fail;refine(hZ so' c' _).mono ?_;rintro e w2 ⟨rfl,hb2⟩;clear hZ hB;have HB2:Hid (Below Wa.heap.size Wa w2):=zzH (zd hb1 hb2);clear hb1 hb2;have HET:Hid (∀A,t.items.all (zj f)=A->R=(okK t&&A)):=zzH (fun A h=>by rw [HE.out,h,Bool.and_true]);clear HE;have HAK:Hid (t.items.all (zj f)=(t.items.drop 0).all (zj f)):=zzH rfl;generalize t.items.all (zj f)=A at HREC HET HAK;go_wp2_with fail;go_loopw [3] (fun iv wr=> ∃(k:Nat),k<=t.items.length/\iv= .int .i64 k/\Hid (A=(t.items.drop k).all (zj f))/\Hid (Below Wa.heap.size Wa wr)) (fun iv _=>t.items.length-(intOf iv).toNat)
 case atStart=>exact⟨0,zzZ _,rfl,HAK,HB2⟩
 case round=>
  obtain⟨k,hk,rfl,HK,HBk⟩:=hrel;rename World=>wr
  clear c0 c1 c2 c3 c4 c5 c6 c7 c8;have hb1:=(HBk.out.block B (zc HBX.out)).trans HBX.out;have hlb1:=zc hb1;obtain ⟨c0,c1,c2,c3,c4,c5,c6,c7,c8⟩:=zzc9 hb1;clear hb1;by_cases hlt:k<t.items.length
  ·exact zz171
  ·have E:Hid (R=okK t):=zzH (by rw [HET.out A rfl,HK.out,zzq8 (by omega)];simp)
   have hkd:=HKD.out;have e2:okK t=decide ((t.items.length:Int)<=255):=by unfold okK;simp [hkd];omega
   rw [hkd]at c0;have E2:=zzH (E.out.trans e2);clear E HKD hkd e2;go_wp2;go_ret;exact⟨zn E2.out.symm,by rw [HBZ.out];exact HFIN.out _ HBk.out⟩
theorem zki (f:Nat) (t:Tm) (so:zzA) (c:Nat) (w:World) (hok:t.Ok) (hrec:zc6 f t so w) (hz:zbE 0 (ze t).int (ze t).gen (ze t).name (ze t).func (ze t).arity (ze t).items.length (ze t).bytes (ze t).bits=true) (hkd:t.kind=4):
  Calls Tryz.prog 148 #[.agg (zzt t so c)] w fun e w'=>e= .returned (.bool (zj (f+1) t))/\Below w.heap.size w w':=by
 unfold zzt;have HKD:=zzH hkd;clear hkd;obtain⟨ok0,ok1,ok2,ok3,ok4,ok5,ok6,ok7,ok8⟩:=hok;unfold maxLen at ok3 ok4 ok6 ok7;have HE:Hid (zj (f+1) t=((okK t&&zbE 0 (ze t).int (ze t).gen (ze t).name (ze t).func (ze t).arity (ze t).items.length (ze t).bytes (ze t).bits)&&t.items.all (zj f))):=zzH (by rw [zdn];rfl);have hZ:=fun so' c' wx=>zcB 0 (ze t).int (ze t).gen (ze t).name (ze t).func (ze t).arity so' (ze t).items.length c' (ze t).bytes (ze t).bits wx (zzY (zcp t) (by omega))
 have hB:=fun wx=>zcA t so c wx
 unfold zem at hB;generalize zbE 0 (ze t).int (ze t).gen (ze t).name (ze t).func (ze t).arity (ze t).items.length (ze t).bytes (ze t).bits=Z at *;generalize ze t=q at *;have HREC0:=zzH hrec;clear hrec;generalize zj (f+1) t=R at *;subst hz;go_in;go_upto_region 1 with fail;have hbx:=zbM w t so c;have hba:Below w.heap.size w (w.alloc (.cells (zzt t so c) 55)):=zzE _ _;generalize w.alloc (.cells (zzt t so c) 55)=Wa at *;have HREC:Hid (zdB f t so Wa (t.items.all (zj f))):=zzH (HREC0.out Wa hba);clear HREC0;generalize hBz:w.heap.size=B at *;refine zzK3 hBz hba hbx fun HBZ HBA HBX=>?_;clear hBz hba;have hlb:=zc hbx;obtain ⟨c0,c1,c2,c3,c4,c5,c6,c7,c8⟩:=zzc9 hbx;clear hbx;have HFIN:Hid (∀wx,Below Wa.heap.size Wa wx->Below B w wx):=zzH (fun wx hh=>HBA.out.trans (hh.mono (by have:=HBA.out.size;have:=HBZ.out;omega)));go_wp2_with fail;refine(hB _).mono ?_;rintro e w1 ⟨so',c',rfl,hb1⟩;go_wp2_with fail;refine(hZ so' c' _).mono ?_;rintro e w2 ⟨rfl,hb2⟩;clear hZ hB;have HB2:Hid (Below Wa.heap.size Wa w2):=zzH (zd hb1 hb2);clear hb1 hb2;have HET:Hid (∀A,t.items.all (zj f)=A->R=(okK t&&A)):=zzH (fun A h=>by rw [HE.out,h,Bool.and_true]);clear HE;have HAK:Hid (t.items.all (zj f)=(t.items.drop 0).all (zj f)):=zzH rfl;generalize t.items.all (zj f)=A at HREC HET HAK;go_wp2_with fail;go_loopw [3] (fun iv wr=> ∃(k:Nat),k<=t.items.length/\iv= .int .i64 k/\Hid (A=(t.items.drop k).all (zj f))/\Hid (Below Wa.heap.size Wa wr)) (fun iv _=>t.items.length-(intOf iv).toNat)
 case atStart=>exact⟨0,zzZ _,rfl,HAK,HB2⟩
 case round=>
  obtain⟨k,hk,rfl,HK,HBk⟩:=hrel;rename World=>wr
  clear c0 c1 c2 c3 c4 c5 c6 c7 c8;have hb1:=(HBk.out.block B (zc HBX.out)).trans HBX.out;have hlb1:=zc hb1;obtain ⟨c0,c1,c2,c3,c4,c5,c6,c7,c8⟩:=zzc9 hb1;clear hb1;by_cases hlt:k<t.items.length
  ·exact zz171
  ·have E:Hid (R=okK t):=zzH (by rw [HET.out A rfl,HK.out,zzq8 (by omega)];simp)
   have hkd:=HKD.out;have hE:=E.out;have e2:okK t=(wi t.int 0 999&&wi t.gen 1 2147483647&&zw t.name&&wi t.arity 0 16&&decide (t.items.length<=200)):=by unfold okK;simp [hkd,Bool.and_assoc]
   rw [e2]at hE;rw [hkd]at c0;clear e2 E HKD hkd;have h0:=fun wx=>zdC t.int 0 999 wx
   have h1:=fun wx=>zdC t.gen 1 2147483647 wx
   have h2:=fun wx=>zdE t.name wx (by unfold maxLen;omega)
   have h3:=fun wx=>zdC t.arity 0 16 wx
   generalize wi t.int 0 999=b0 at *;generalize wi t.gen 1 2147483647=b1 at *;generalize zw t.name=b2 at *;generalize wi t.arity 0 16=b3 at *;have E:=zzH hE;clear hE
   cases b0 with
   |false=>
    exact zz174
   |true=>
    cases b1 with
    |false=>
     exact zz174
    |true=>
     cases b2 with
     |false=>
      exact zz174
     |true=>
      cases b3 with
      |false=>
       exact zz174
      |true=>
       exact zz174
theorem zoO (f:Nat) (t:Tm) (so:zzA) (c:Nat) (w:World) (hok:t.Ok) (hrec:zc6 f t so w) (hz:zbE 0 (ze t).int (ze t).gen (ze t).name (ze t).func (ze t).arity (ze t).items.length (ze t).bytes (ze t).bits=true) (hkd:t.kind=9):
  Calls Tryz.prog 148 #[.agg (zzt t so c)] w fun e w'=>e= .returned (.bool (zj (f+1) t))/\Below w.heap.size w w':=by
 unfold zzt;have HKD:=zzH hkd;clear hkd;obtain⟨ok0,ok1,ok2,ok3,ok4,ok5,ok6,ok7,ok8⟩:=hok;unfold maxLen at ok3 ok4 ok6 ok7;have HE:Hid (zj (f+1) t=((okK t&&zbE 0 (ze t).int (ze t).gen (ze t).name (ze t).func (ze t).arity (ze t).items.length (ze t).bytes (ze t).bits)&&t.items.all (zj f))):=zzH (by rw [zdn];rfl);have hZ:=fun so' c' wx=>zcB 0 (ze t).int (ze t).gen (ze t).name (ze t).func (ze t).arity so' (ze t).items.length c' (ze t).bytes (ze t).bits wx (zzY (zcp t) (by omega))
 have hB:=fun wx=>zcA t so c wx
 unfold zem at hB;generalize zbE 0 (ze t).int (ze t).gen (ze t).name (ze t).func (ze t).arity (ze t).items.length (ze t).bytes (ze t).bits=Z at *;generalize ze t=q at *;have HREC0:=zzH hrec;clear hrec;generalize zj (f+1) t=R at *;subst hz;go_in;go_upto_region 1 with fail;have hbx:=zbM w t so c;have hba:Below w.heap.size w (w.alloc (.cells (zzt t so c) 55)):=zzE _ _;generalize w.alloc (.cells (zzt t so c) 55)=Wa at *;have HREC:Hid (zdB f t so Wa (t.items.all (zj f))):=zzH (HREC0.out Wa hba);clear HREC0;generalize hBz:w.heap.size=B at *;refine zzK3 hBz hba hbx fun HBZ HBA HBX=>?_;clear hBz hba;have hlb:=zc hbx;obtain ⟨c0,c1,c2,c3,c4,c5,c6,c7,c8⟩:=zzc9 hbx;clear hbx;have HFIN:Hid (∀wx,Below Wa.heap.size Wa wx->Below B w wx):=zzH (fun wx hh=>HBA.out.trans (hh.mono (by have:=HBA.out.size;have:=HBZ.out;omega)));go_wp2_with fail;refine(hB _).mono ?_;rintro e w1 ⟨so',c',rfl,hb1⟩;go_wp2_with fail;refine(hZ so' c' _).mono ?_;rintro e w2 ⟨rfl,hb2⟩;clear hZ hB;have HB2:Hid (Below Wa.heap.size Wa w2):=zzH (zd hb1 hb2);clear hb1 hb2;have HET:Hid (∀A,t.items.all (zj f)=A->R=(okK t&&A)):=zzH (fun A h=>by rw [HE.out,h,Bool.and_true]);clear HE;have HAK:Hid (t.items.all (zj f)=(t.items.drop 0).all (zj f)):=zzH rfl;generalize t.items.all (zj f)=A at HREC HET HAK;go_wp2_with fail;go_loopw [3] (fun iv wr=> ∃(k:Nat),k<=t.items.length/\iv= .int .i64 k/\Hid (A=(t.items.drop k).all (zj f))/\Hid (Below Wa.heap.size Wa wr)) (fun iv _=>t.items.length-(intOf iv).toNat)
 case atStart=>exact⟨0,zzZ _,rfl,HAK,HB2⟩
 case round=>
  obtain⟨k,hk,rfl,HK,HBk⟩:=hrel;rename World=>wr
  clear c0 c1 c2 c3 c4 c5 c6 c7 c8;have hb1:=(HBk.out.block B (zc HBX.out)).trans HBX.out;have hlb1:=zc hb1;obtain ⟨c0,c1,c2,c3,c4,c5,c6,c7,c8⟩:=zzc9 hb1;clear hb1;by_cases hlt:k<t.items.length
  ·exact zz171
  ·have E:Hid (R=okK t):=zzH (by rw [HET.out A rfl,HK.out,zzq8 (by omega)];simp)
   have hkd:=HKD.out;have e2:okK t=(decide (2<=t.items.length)&&decide (zgT t.items≠9)):=by unfold okK;simp [hkd]
   rw [hkd]at c0;have E2:=zzH (E.out.trans e2);clear E HKD hkd e2;by_cases h2:t.items.length<2
   ·have E3:Hid (R=false):=zzH (by rw [E2.out,decide_eq_false (by omega)];rfl)
    go_wp2;go_ret;exact⟨zn E3.out.symm,by rw [HBZ.out];exact HFIN.out _ HBk.out⟩
   ·have hl1:t.items.length-1<t.items.length:=by omega
    have hA:t.items.all (zj f)=true:=by
     have h:=HAK.out.symm.trans HK.out;rw [zzq8 (Nat.le_of_not_lt hlt),List.drop_zero]at h;exact h
    obtain⟨b2,off,ai,ci,hao,hb2,q0,-⟩:=HREC.out (t.items.length-1) wr hl1 HBk.out (by rw [HAK.out,List.drop_zero,hA];exact(zjG hA _).symm);subst hao;have E3:Hid (R=decide (t.items[t.items.length-1].kind≠9)):=zzH (by rw [E2.out,zrQ hl1,decide_eq_true (by omega),zzq15]);clear E2 hA HAK HET HREC;generalize t.items[t.items.length-1].kind=lk at *;clear hl1;obtain⟨m,hm⟩: ∃m,t.items.length=m+2:=⟨t.items.length-2,by omega⟩;generalize t.items.length=n at *;subst hm;rw [show m+2-1=m+1 by rfl]at q0;go_wp2;go_ret;exact⟨zn (by rw [E3.out];by_cases hl:lk=9<;>simp [hl]),by rw [HBZ.out];exact HFIN.out _ HBk.out⟩
theorem zjg (f:Nat) (IH: ∀f',f=f'+1->znk f'):znk f:=by
 intro t so c w hsl hok
 have hrec:zc6 f t so w:=by
  intro Wa hba k wr hlt hb hs
  cases f with
  |zero=>rw [hsl.zero]at hlt;exact absurd hlt (zzC _)
  |succ f=>
   obtain⟨b2,off,ai,ci,hao,hb2,q0,q1,q2,q3,q4,q5,q6,q7,q8,hit,hok2⟩:=(SlAt.tms (SlAt.tms hsl hba) hb).tm hlt;exact⟨b2,off,ai,ci,hao,hb2,q0,q1,q2,q3,q4,q5,q6,q7,q8,zj (f+1) t.items[k],IH f rfl _ ai ci wr hit hok2,by rw [hs];exact zgQ hlt⟩
 cases hz:zbE 0 (ze t).int (ze t).gen (ze t).name (ze t).func (ze t).arity (ze t).items.length (ze t).bytes (ze t).bits with
 |false=>exact zot f t so c w hok hrec hz
 |true=>
  by_cases h1:t.kind=1
  ·exact zqb f t so c w hok hrec hz h1
  by_cases h2:t.kind=2
  ·exact zoW f t so c w hok hrec hz h2
  by_cases h3:t.kind=3
  ·exact zqQ f t so c w hok hrec hz h3
  by_cases h4:t.kind=4
  ·exact zki f t so c w hok hrec hz h4
  by_cases h5:t.kind=5
  ·exact zlK f t so c w hok hrec hz h5
  by_cases h6:t.kind=6
  ·exact zqt f t so c w hok hrec hz h6
  by_cases h7:t.kind=7
  ·exact zmS f t so c w hok hrec hz h7
  by_cases h8:t.kind=8
  ·exact zqm f t so c w hok hrec hz h8
  by_cases h9:t.kind=9
  ·exact zoO f t so c w hok hrec hz h9
  by_cases h10:t.kind=10
  ·exact zpB f t so c w hok hrec hz h10
  exact znO f t so c w hok hrec hz (by omega)
theorem zrE (f:Nat):znk f:=by
 induction f with
 |zero=>exact zjg 0 (fun f' h=>absurd h (by omega))
 |succ f ih=>exact zjg (f+1) (fun f' h=>by
   have:f'=f:=by omega
   subst this;exact ih)
theorem zlG (f:Nat) (t:Tm) (so:zzA) (c:Nat) (w:World) (ht:SlAt w 9 (TmAt w f) so t.items) (hok:t.Ok) (hs1:(zG (f+1) t:Int)<=1152921504606846976):
  Calls Tryz.prog 131 #[.agg (zzt t so c)] w fun e w'=>e= .returned (.int .i64 (zef (f+1) t))/\Below w.heap.size w w':=by
 unfold zzt;have hbx:=zbM w t so c;have hB:Below w.heap.size w (w.alloc (.cells (zzt t so c) 55)):=zzE _ _;have hF: ∀wx,Below w.heap.size w wx->Calls Tryz.prog 148 #[.agg #[.int .i64 t.kind,.int .i64 t.int,.int .i64 t.gen,.string t.name,.string t.func,.int .i64 t.arity,.slice so t.items.length c,.string t.bytes,.int .i64 t.bits]] wx fun e w'=>e= .returned (.bool (zj (f+1) t))/\Below wx.heap.size wx w':=fun wx hx=>zrE f t so c wx (ht.tms hx) hok
 have hW:zj (f+1) t=true-> ∀wx,Below w.heap.size w wx->Calls Tryz.prog 149 #[.agg #[.int .i64 t.kind,.int .i64 t.int,.int .i64 t.gen,.string t.name,.string t.func,.int .i64 t.arity,.slice so t.items.length c,.string t.bytes,.int .i64 t.bits]] wx fun e w'=>e= .returned (.int .i64 (zt (f+1) t))/\Below wx.heap.size wx w':=fun h wx hx=>zpi f t so c wx (ht.tms hx) hok h hs1
 have E:Hid (zef (f+1) t=if zj (f+1) t=true then(if 2000<zt (f+1) t then 3 else 0)else 2):=zzH rfl;refine zzK4 hB hbx hF hW fun HB HBX HF HW=>?_;clear ht hok hs1 hB hF hW hbx;generalize zef (f+1) t=r at *;generalize zj (f+1) t=b at *;generalize zt (f+1) t=n at *;go_in;go_upto_region 1 with fail;generalize w.alloc (.cells (zzt t so c) 55)=Wa at *;generalize hBz:w.heap.size=B at *;have HBZ:=zzH hBz;clear hBz;have hb1:=HBX.out;have hlb1:=zc hb1;obtain ⟨c0,c1,c2,c3,c4,c5,c6,c7,c8⟩:=zzc9 hb1;clear hb1
 cases b with
 |false=>
  rw [if_neg (by decide)]at E;go_wp2_with fail;refine(HF.out _ HB.out).mono ?_;rintro e w5 ⟨rfl,hb5⟩;go_wp2;go_ret;exact⟨zcQ E.out.symm,zd (by rw [HBZ.out];exact HB.out) hb5⟩
 |true=>
  rw [if_pos rfl]at E;go_wp2_with fail;refine(HF.out _ HB.out).mono ?_;rintro e w5 ⟨rfl,hb5⟩;have hb1:=(hb5.block B hlb1).trans HBX.out;have hlb5:=zc hb1;clear c0 c1 c2 c3 c4 c5 c6 c7 c8 hlb1;obtain ⟨c0,c1,c2,c3,c4,c5,c6,c7,c8⟩:=zzc9 hb1;clear hb1;have HB5:Hid (Below B w w5):=zzH (HB.out.trans (hb5.mono (by have:=HB.out.size;have:=HBZ.out;omega)));clear hb5;by_cases hn:2000<n
  ·rw [if_pos hn]at E
   exact zz175
  ·rw [if_neg hn]at E
   have hn':n<=2000:=by omega
   clear hn;exact zz175
theorem zfn (f:Nat) (t:Tm) (so:zzA) (c:Nat) (w:World) (ht:SlAt w 9 (TmAt w f) so t.items) (hok:t.Ok) (hs1:(zG (f+1) t:Int)<=1152921504606846976):
  Calls Tryz.prog 87 #[.agg (zzt t so c)] w fun e w'=>e= .returned (.bool (zA (f+1) t))/\Below w.heap.size w w':=by
 unfold zzt;have hB:Below w.heap.size w (w.alloc (.cells (zzt t so c) 55)):=zzE _ _;have hC:=zlG f t so c (w.alloc (.cells (zzt t so c) 55)) (ht.tms hB) hok hs1
 have E:Hid ((zef (f+1) t==0)=zA (f+1) t):=zzH (by
  unfold zef zA
  cases zj (f+1) t
  ·rfl
  ·rw [if_pos rfl,zzq15]
   by_cases h:2000<zt (f+1) t
   ·rw [if_pos h,decide_eq_false (by omega)];rfl
   ·rw [if_neg h,decide_eq_true (by omega)];rfl)
 have HB:=zzH hB;clear hB ht hok hs1;generalize zef (f+1) t=n at *;go_in;go_wp2_with fail;refine hC.mono ?_;rintro e w5 ⟨rfl,hb5⟩;go_wp2;go_ret;exact⟨zn E.out,zd HB.out hb5⟩
theorem zin: ∀(a b:List UInt8),Lib.compareBytes a b= -1\/Lib.compareBytes a b=0\/Lib.compareBytes a b=1
 |[],[]=>.inr (.inl rfl)
 |[],_::_=>.inl rfl
 |_::_,[]=>.inr (.inr rfl)
 |a::x,b::y=>by
  unfold Lib.compareBytes;split
  ·exact .inl rfl
  ·split
   ·exact .inr (.inr rfl)
   ·exact zin x y
theorem zjM: ∀(a b:List UInt8),Op.bytesLess a b=decide (Lib.compareBytes a b= -1)
 |[],[]=>rfl
 |[],_::_=>rfl
 |_::_,[]=>rfl
 |a::x,b::y=>by
  unfold Op.bytesLess Lib.compareBytes;by_cases h:a<b
  ·rw [if_pos h,decide_eq_true h];rfl
  ·rw [if_neg h,decide_eq_false h,zzq9]
   by_cases h2:b<a
   ·rw [if_pos h2]
    have:(a==b)=false:=by
     rw [zzq3];intro e;subst e;exact h h2
    rw [this];rfl
   ·rw [if_neg h2]
    have:a=b:=by
     rw [UInt8.lt_iff_toNat_lt]at h h2;exact UInt8.toNat_inj.1 (by omega)
    subst this;rw [beq_self_eq_true,zzq15];exact zjM x y
theorem zmt: ∀(a b:List UInt8),(a==b)=decide (Lib.compareBytes a b=0)
 |[],[]=>rfl
 |[],_::_=>rfl
 |_::_,[]=>rfl
 |a::x,b::y=>by
  unfold Lib.compareBytes;by_cases h:a<b
  ·rw [if_pos h]
   have:a≠b:=by intro e;subst e;rw [UInt8.lt_iff_toNat_lt]at h;omega
   simp [this]
  ·rw [if_neg h]
   by_cases h2:b<a
   ·rw [if_pos h2]
    have:a≠b:=by intro e;subst e;exact h h2
    simp [this]
   ·rw [if_neg h2]
    have:a=b:=by
     rw [UInt8.lt_iff_toNat_lt]at h h2;exact UInt8.toNat_inj.1 (by omega)
    subst this;rw [<-zmt x y];simp
theorem zjn (a b:Int) (w:World):Calls Tryz.prog 163 #[.int .i64 a,.int .i64 b] w fun e w'=>e= .returned (.int .i64 (Lib.compareInt a b))/\w=w':=by
 by_cases h:a<b
 ·have E:Hid (Lib.compareInt a b= -1):=zzH (by unfold Lib.compareInt;rw [if_pos h])
  exact zz177
 ·by_cases h2:b<a
  ·have E:Hid (Lib.compareInt a b=1):=zzH (by unfold Lib.compareInt;rw [if_neg h,if_pos h2])
   exact zz177
  ·have E:Hid (Lib.compareInt a b=0):=zzH (by unfold Lib.compareInt;rw [if_neg h,if_neg (by omega)])
   exact zz177
theorem znv (a b:ByteArray) (w:World):Calls Tryz.prog 164 #[.string a,.string b] w fun e w'=>e= .returned (.int .i64 (Lib.compareBytes a.toList b.toList))/\w=w':=by
 have key: ∀(x1 x2:Bool) (n:Int),Op.bytesLess a.toList b.toList=x1->(a.toList==b.toList)=x2->n=(if x1=true then -1 else if x2=true then 0 else 1)->Calls Tryz.prog 164 #[.string a,.string b] w fun e w'=>e= .returned (.int .i64 n)/\w=w':=by
  intro x1 x2 n h1 h2 h3;have E:=zzH h3;clear h3
  cases x1 with
  |true=>
   exact zz177
  |false=>
   cases x2 with
   |true=>
    exact zz177
   |false=>
    exact zz177
 refine key _ _ _ rfl rfl ?_;rw [zjM,zmt];rcases zin a.toList b.toList with h|h|h<;>rw [h]<;>rfl
theorem zc5 {s:ByteArray} (h:zS s=true):s.data.toList= []:=by
 unfold zS at h;rw [zzq7]at h;exact zzQ (by rw [Array.length_toList];exact h)
theorem zdV {f:Nat} {t:Tm} (h:zA (f+1) t=true):zcL t=true:=by
 unfold zA zj zcm at h;simp only [zzq6]at h;exact h.1.1.2
theorem zeN (a:Int):Lib.compareInt a a=0:=by unfold Lib.compareInt;rw [if_neg (Int.lt_irrefl _),if_neg (Int.lt_irrefl _)]
theorem zmn (x:Int):(if x=0 then(0:Int)else x)=x:=by split<;>omega
theorem zqy {f:Nat} {a b:Tm} (va:zA (f+1) a=true) (vb:zA (f+1) b=true) (ha:a.kind=1) (hb:b.kind=1):zcl a b=Lib.compareInt a.int b.int:=by
 have za:=zdV va;have zb:=zdV vb;unfold zcL at za zb;simp only [ha,hb]at za zb;simp at za zb;unfold zI zL at za zb;simp only [zzq7]at za zb;have n1:=zc5 za.1.1.1.1.1.2;have n2:=zc5 zb.1.1.1.1.1.2;have f1:=zc5 za.1.1.1.1.2;have f2:=zc5 zb.1.1.1.1.2;have g1:=za.1.1.1.1.1.1;have g2:=zb.1.1.1.1.1.1;have a1:=za.1.1.1.2;have a2:=zb.1.1.1.2;unfold zcl;rw [ha,hb,zeN,if_pos rfl,n1,n2,f1,f2,g1,g2,a1,a2];simp only [orL,Lib.compareBytes,zeN,if_true];exact zmn _
theorem zoX {f:Nat} {a b:Tm} (va:zA (f+1) a=true) (vb:zA (f+1) b=true) (ha:a.kind=2) (hb:b.kind=2):zcl a b=Lib.compareBytes a.name.data.toList b.name.data.toList:=by
 have za:=zdV va;have zb:=zdV vb;unfold zcL at za zb;simp only [ha,hb]at za zb;simp at za zb;unfold zI zL at za zb;simp only [zzq7]at za zb;have i1:=za.1.1.1.1.1.1;have i2:=zb.1.1.1.1.1.1;have f1:=zc5 za.1.1.1.1.2;have f2:=zc5 zb.1.1.1.1.2;have g1:=za.1.1.1.1.1.2;have g2:=zb.1.1.1.1.1.2;have a1:=za.1.1.1.2;have a2:=zb.1.1.1.2;unfold zcl;rw [ha,hb,zeN,if_pos rfl,i1,i2,f1,f2,g1,g2,a1,a2];simp only [orL,Lib.compareBytes,zeN,if_true];exact zmn _
theorem zrp {f:Nat} {a b:Tm} (va:zA (f+1) a=true) (vb:zA (f+1) b=true) (ha:a.kind=8) (hb:b.kind=8):zcl a b=0:=by
 have za:=zdV va;have zb:=zdV vb;unfold zcL at za zb;simp only [ha,hb]at za zb;simp at za zb;unfold zI zL at za zb;simp only [zzq7]at za zb;have i1:=za.1.1.1.1.1.1.1;have i2:=zb.1.1.1.1.1.1.1;have n1:=zc5 za.1.1.1.1.1.2;have n2:=zc5 zb.1.1.1.1.1.2;have f1:=zc5 za.1.1.1.1.2;have f2:=zc5 zb.1.1.1.1.2;have g1:=za.1.1.1.1.1.1.2;have g2:=zb.1.1.1.1.1.1.2;have a1:=za.1.1.1.2;have a2:=zb.1.1.1.2;unfold zcl;rw [ha,hb,zeN,if_pos rfl,i1,i2,n1,n2,f1,f2,g1,g2,a1,a2];simp only [orL,Lib.compareBytes,zeN,if_true]
theorem zpH {a b:Tm} (h:a.kind≠b.kind):zcl a b=Lib.compareInt a.kind b.kind:=by
 unfold zcl;rw [if_neg];unfold Lib.compareInt;split
 ·decide
 ·split
  ·decide
  ·omega
theorem zi3 (f:Nat) (a b:Tm) (ao bo:zzA) (c d:Nat) (w:World) (hta:SlAt w 9 (TmAt w f) ao a.items) (htb:SlAt w 9 (TmAt w f) bo b.items) (oa:a.Ok) (ob:b.Ok) (ca:(zG (f+1) a:Int)<=1152921504606846976) (cb:(zG (f+1) b:Int)<=1152921504606846976)
  (va:zA (f+1) a=true) (vb:zA (f+1) b=true) (ka:a.kind=1\/a.kind=2\/a.kind=8) (kb:b.kind=1\/b.kind=2\/b.kind=8):
  Calls Tryz.prog 147 #[.agg (zzt a ao c),.agg (zzt b bo d)] w fun e w'=>e= .returned (.int .i64 (zcl a b))/\Below w.heap.size w w':=by
 unfold zzt;have HB:=zzH (fun(ka kb:Int)=>zU w (.cells #[.int .i64 ka,.int .i64 a.int,.int .i64 a.gen,.string a.name,.string a.func,.int .i64 a.arity,.slice ao a.items.length c,.string a.bytes,.int .i64 a.bits] 55) (.cells #[.int .i64 kb,.int .i64 b.int,.int .i64 b.gen,.string b.name,.string b.func,.int .i64 b.arity,.slice bo b.items.length d,.string b.bytes,.int .i64 b.bits] 55));by_cases hk:a.kind=b.kind
 ·have hnb : (a.kind != b.kind) = false := by rw [bne_eq_false_iff_eq]; exact hk
  have E1:Hid (a.kind=1->zcl a b=Lib.compareInt a.int b.int):=zzH (fun h=>zqy va vb h (hk▸h));have E2:Hid (a.kind=2->zcl a b=Lib.compareBytes a.name.toList b.name.toList):=zzH (fun h=>by rw [zzq14,zzq14];exact zoX va vb h (hk▸h));have E8:Hid (a.kind=8->zcl a b=0):=zzH (fun h=>zrp va vb h (hk▸h));clear hta htb oa ob ca cb va vb;have h1:=fun wx=>zjn a.int b.int wx
  have h2:=fun wx=>znv a.name b.name wx
  generalize zcl a b=r at *;generalize Lib.compareInt a.int b.int=r1 at *;generalize Lib.compareBytes a.name.toList b.name.toList=r2 at *;clear kb;rw [hk]at ka hnb E1 E2 E8;rw [hk];generalize b.kind=k at *;clear hk;rcases ka with rfl|rfl|rfl
  ·have E:=zzH (E1.out rfl)
   clear E1 E2 E8;exact zz178
  ·have E:=zzH (E2.out rfl)
   clear E1 E2 E8;go_in;go_wp2_with (go_at_call 164;refine(h2 _).mono ?_;rintro e w1 ⟨rfl,rfl⟩);go_ret;exact⟨zcQ E.out.symm,HB.out _ _⟩
  ·have E:=zzH (E8.out rfl)
   clear E1 E2 E8;go_in;go_wp2;go_ret;exact⟨zcQ E.out.symm,HB.out _ _⟩
 ·have hnb : (a.kind != b.kind) = true := by rw [bne_iff_ne]; exact hk
  have E:=zzH (zpH hk);have h1:=fun wx=>zjn a.kind b.kind wx
  clear hta htb oa ob ca cb va vb hk ka kb;generalize zcl a b=r at *;generalize Lib.compareInt a.kind b.kind=r1 at *;exact zz178
theorem ziN (f:Nat) (a b:Tm) (ao bo:zzA) (c d:Nat) (w:World) (hta:SlAt w 9 (TmAt w f) ao a.items) (htb:SlAt w 9 (TmAt w f) bo b.items) (oa:a.Ok) (ob:b.Ok) (ca:(zG (f+1) a:Int)<=1152921504606846976) (cb:(zG (f+1) b:Int)<=1152921504606846976)
  (va:zA (f+1) a=true) (vb:zA (f+1) b=true) (ka:a.kind=1\/a.kind=2\/a.kind=8) (kb:b.kind=1\/b.kind=2\/b.kind=8):
  Calls Tryz.prog 130 #[.agg #[.int .i64 a.kind,.int .i64 a.int,.int .i64 a.gen,.string a.name,.string a.func,.int .i64 a.arity,.slice ao a.items.length c,.string a.bytes,.int .i64 a.bits],.agg #[.int .i64 b.kind,.int .i64 b.int,.int .i64 b.gen,.string b.name,.string b.func,.int .i64 b.arity,.slice bo b.items.length d,.string b.bytes,.int .i64 b.bits]] w fun e w'=>e= .returned (.int .i64 (zcl a b))/\Below w.heap.size w w':=by
 have hB:=zU w (.cells #[.int .i64 a.kind,.int .i64 a.int,.int .i64 a.gen,.string a.name,.string a.func,.int .i64 a.arity,.slice ao a.items.length c,.string a.bytes,.int .i64 a.bits] 55) (.cells #[.int .i64 b.kind,.int .i64 b.int,.int .i64 b.gen,.string b.name,.string b.func,.int .i64 b.arity,.slice bo b.items.length d,.string b.bytes,.int .i64 b.bits] 55);have r0:=zfD w (.cells #[.int .i64 a.kind,.int .i64 a.int,.int .i64 a.gen,.string a.name,.string a.func,.int .i64 a.arity,.slice ao a.items.length c,.string a.bytes,.int .i64 a.bits] 55) (.cells #[.int .i64 b.kind,.int .i64 b.int,.int .i64 b.gen,.string b.name,.string b.func,.int .i64 b.arity,.slice bo b.items.length d,.string b.bytes,.int .i64 b.bits] 55);have r1:=zeR w (.cells #[.int .i64 a.kind,.int .i64 a.int,.int .i64 a.gen,.string a.name,.string a.func,.int .i64 a.arity,.slice ao a.items.length c,.string a.bytes,.int .i64 a.bits] 55) (.cells #[.int .i64 b.kind,.int .i64 b.int,.int .i64 b.gen,.string b.name,.string b.func,.int .i64 b.arity,.slice bo b.items.length d,.string b.bytes,.int .i64 b.bits] 55);have hva: ∀wx,Below w.heap.size w wx->Calls Tryz.prog 87 #[.agg #[.int .i64 a.kind,.int .i64 a.int,.int .i64 a.gen,.string a.name,.string a.func,.int .i64 a.arity,.slice ao a.items.length c,.string a.bytes,.int .i64 a.bits]] wx fun e w'=>e= .returned (.bool true)/\Below wx.heap.size wx w':=fun wx hx=>by have h:=zfn f a ao c wx (hta.tms hx) oa ca;rwa [va]at h
 have hvb: ∀wx,Below w.heap.size w wx->Calls Tryz.prog 87 #[.agg #[.int .i64 b.kind,.int .i64 b.int,.int .i64 b.gen,.string b.name,.string b.func,.int .i64 b.arity,.slice bo b.items.length d,.string b.bytes,.int .i64 b.bits]] wx fun e w'=>e= .returned (.bool true)/\Below wx.heap.size wx w':=fun wx hx=>by have h:=zfn f b bo d wx (htb.tms hx) ob cb;rwa [vb]at h
 have hvs: ∀wx,Below w.heap.size w wx->Calls Tryz.prog 147 #[.agg #[.int .i64 a.kind,.int .i64 a.int,.int .i64 a.gen,.string a.name,.string a.func,.int .i64 a.arity,.slice ao a.items.length c,.string a.bytes,.int .i64 a.bits],.agg #[.int .i64 b.kind,.int .i64 b.int,.int .i64 b.gen,.string b.name,.string b.func,.int .i64 b.arity,.slice bo b.items.length d,.string b.bytes,.int .i64 b.bits]] wx fun e w'=>e= .returned (.int .i64 (zcl a b))/\Below wx.heap.size wx w':=fun wx hx=>zi3 f a b ao bo c d wx (hta.tms hx) (htb.tms hx) oa ob ca cb va vb ka kb
 refine zzK6 hva hvb hvs hB r0 r1 fun HVA HVB HVS HB R0 R1=>?_;clear hta htb oa ob ca cb va vb ka kb hB hva hvb hvs r0 r1;generalize zcl a b=r at *;go_in;go_upto_region 1 with fail;have hq0:=R0.out;have hq1:=R1.out;generalize(w.alloc (.cells #[.int .i64 a.kind,.int .i64 a.int,.int .i64 a.gen,.string a.name,.string a.func,.int .i64 a.arity,.slice ao a.items.length c,.string a.bytes,.int .i64 a.bits] 55)).alloc (.cells #[.int .i64 b.kind,.int .i64 b.int,.int .i64 b.gen,.string b.name,.string b.func,.int .i64 b.arity,.slice bo b.items.length d,.string b.bytes,.int .i64 b.bits] 55)=W at *;generalize hBz:w.heap.size=Z at *;have HBZ:=zzH hBz;clear hBz;have HBW:Hid (Below w.heap.size w W):=zzH (by rw [HBZ.out];exact HB.out);have hva': ∀wx,Below W.heap.size W wx->Calls Tryz.prog 87 #[.agg #[.int .i64 a.kind,.int .i64 a.int,.int .i64 a.gen,.string a.name,.string a.func,.int .i64 a.arity,.slice ao a.items.length c,.string a.bytes,.int .i64 a.bits]] wx fun e w'=>e= .returned (.bool true)/\Below W.heap.size W w':=fun wx hx=>(HVA.out wx (by rw [<-HBZ.out];exact zd HBW.out hx)).mono fun _ _ ⟨h,h'⟩=>⟨h,zd hx h'⟩
 have hvb': ∀wx,Below W.heap.size W wx->Calls Tryz.prog 87 #[.agg #[.int .i64 b.kind,.int .i64 b.int,.int .i64 b.gen,.string b.name,.string b.func,.int .i64 b.arity,.slice bo b.items.length d,.string b.bytes,.int .i64 b.bits]] wx fun e w'=>e= .returned (.bool true)/\Below W.heap.size W w':=fun wx hx=>(HVB.out wx (by rw [<-HBZ.out];exact zd HBW.out hx)).mono fun _ _ ⟨h,h'⟩=>⟨h,zd hx h'⟩
 obtain⟨q0,q1,q2,q3,q4,q5,q6,q7,q8,zq⟩:=zg hq0;obtain⟨p0,p1,p2,p3,p4,p5,p6,p7,p8,zp⟩:=zg hq1;have hl0:=zc hq0;have hl1:=zc hq1;clear zq zp hq0 hq1;have HDR:=zzH ((zzR W.heap.size W).drew);have SK0:=zzH (zY HDR.out)
 first|go_region_held3 (fun w'=>W.heap.size<=w'.heap.size/\ ∀b o,b<W.heap.size->w'.cell? ⟨b,o,none⟩=W.cell? ⟨b,o,none⟩) (first|with_reducible exact SK0.out|with_reducible exact HK5.out|with_reducible exact HK6.out)
  (first
   |(go_at_call 87;(first|(with_reducible refine(hva' _ HDR.out).mono ?_)|(with_reducible refine(hvb' _ HDR.out).mono ?_));rintro e w5 ⟨rfl,hb5⟩;have HK5:=zzH (zY hb5))
   |(go_at_call 87;(first|(with_reducible refine(hva' _ hb5).mono ?_)|(with_reducible refine(hvb' _ hb5).mono ?_));rintro e w6 ⟨rfl,hb6⟩;have HK6:=zzH (zY hb6)))|fail
 all_goals
  obtain⟨s0,s1,s2,s3,s4,s5,s6,s7,s8,zs⟩:=zg ((hb6.block _ hl0).trans R0.out);obtain⟨u0,u1,u2,u3,u4,u5,u6,u7,u8,zu⟩:=zg ((hb6.block _ hl1).trans R1.out);go_wp2_with (go_at_call 147;refine(HVS.out _ (by rw [<-HBZ.out];exact zd HBW.out hb6)).mono ?_;rintro e w8 ⟨rfl,hb8⟩);go_ret;exact⟨rfl,zd HBW.out (zd hb6 hb8)⟩
end Go.Proofs.YtijekmeocadkeaaGreatDoor
