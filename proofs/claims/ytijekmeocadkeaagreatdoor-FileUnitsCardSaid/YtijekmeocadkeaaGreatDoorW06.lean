import Derived.Test.YtijekmeocadkeaaGreatDoorW02
import Derived.Test.YtijekmeocadkeaaGreatDoorW03
import Derived.Test.YtijekmeocadkeaaGreatDoorW04
namespace Go.Proofs.YtijekmeocadkeaaGreatDoor
open Go.RowKit
set_option linter.unusedVariables false
set_option linter.unusedSimpArgs false
set_option maxRecDepth 100000
set_option maxHeartbeats 0
def zd1 (u:RUnit):ByteArray:=u.mdl++⟨#[32]⟩++⟨(txt u.vsn).toArray⟩
theorem zrO {n:Int} (h:I64 n):(txt n).length<=21:=by
 obtain⟨h1,h2⟩:=h;unfold txt;split
 ·have:=zfA (m:=n.natAbs) (by omega)
  simp only [zzq18];omega
 ·have:=zfA (m:=n.natAbs) (by omega)
  omega
theorem zhY {n:Int} (h:I64 n):(⟨(txt n).toArray⟩:ByteArray).size<=21:=by
 have:=zrO h;show(txt n).toArray.size<=21
 simpa using this
theorem znh {u:RUnit} (h:I64 u.vsn) (hm:u.mdl.size<=1000):(zd1 u).size<=1022:=by
 have:=zhY h;unfold zd1;rw [ByteArray.size_append,ByteArray.size_append];have e:(⟨#[32]⟩:ByteArray).size=1:=rfl;omega
theorem zlf (u:RUnit) (lo fo go co:zzA) (lc fc gc cc:Nat) (w:World) (hv:I64 u.vsn) (hm:u.mdl.size<=1000):
  Calls Tryz.prog 15 #[.agg (zzu u lo lc fo fc go gc co cc)] w fun e w'=>e= .returned (.string (zd1 u))/\Below w.heap.size w w':=by
 unfold zzu;have hts:=zhY hv;have HT:=zzH (fun wx=>zlh u.vsn wx hv);have HI:Hid (zd1 u=u.mdl++⟨#[32]⟩++⟨(txt u.vsn).toArray⟩):=zzH rfl;go_in;go_upto_region 1 with fail;have hbx:=zcJ w u lo fo go co lc fc gc cc;have hba:Below w.heap.size w (w.alloc (.cells (zzu u lo lc fo fc go gc co cc) 27)):=zzE _ _;generalize w.alloc (.cells (zzu u lo lc fo fc go gc co cc) 27)=Wa at *;have HBA:=zzH hba;have c0:=hbx.c0;have c1:=hbx.c1;have hlt:=hbx.lt;clear hbx hba;generalize(⟨(txt u.vsn).toArray⟩:ByteArray)=T at *;have e1:(⟨#[32]⟩:ByteArray).size=1:=rfl;have ha1:=fun wx=>run_string_add_sum (P:=Tryz.prog) wx u.mdl ⟨#[32]⟩ (by rw [e1];omega)
 have e2:(u.mdl++(⟨#[32]⟩:ByteArray)).size=u.mdl.size+1:=by rw [ByteArray.size_append];rfl
 have ha2:=fun wx=>run_string_add_sum (P:=Tryz.prog) wx (u.mdl++⟨#[32]⟩) T (by rw [e2];omega)
 clear e1 e2
 go_region_held3 (fun w'=>w'.cell? ⟨w.heap.size,0,none⟩=some (.string u.mdl)/\w'.cell? ⟨w.heap.size,1,none⟩=some (.int .i64 u.vsn)) (exact⟨by assumption,by assumption⟩)
  (first|(go_at_call 38;refine(HT.out _).mono ?_;rintro e w5 ⟨rfl,hb5⟩;have q0:=(hb5.cell (p:=⟨w.heap.size,0,none⟩) hlt).trans c0;have q1:=(hb5.cell (p:=⟨w.heap.size,1,none⟩) hlt).trans c1;have qB:Below w.heap.size w w5:=HBA.out.drew.trans (hb5.mono HBA.out.size)))
 go_wp2;go_ret;exact⟨by rw [HI.out];rfl,qB⟩
theorem zpn (u:RUnit) (lo fo go co:zzA) (lc fc gc cc:Nat) (w:World) (hv:I64 u.vsn) (hm:u.mdl.size<=1000):
  Calls Tryz.prog 18 #[.agg (zzu u lo lc fo fc go gc co cc)] w fun e w'=>e= .returned (.string (zd1 u))/\Below w.heap.size w w':=by
 unfold zzu;have hts:=zhY hv;have HT:=zzH (fun wx=>znT u.vsn wx hv);have HI:Hid (zd1 u=u.mdl++⟨#[32]⟩++⟨(txt u.vsn).toArray⟩):=zzH rfl;go_in;go_upto_region 1 with fail;have hbx:=zcJ w u lo fo go co lc fc gc cc;have hba:Below w.heap.size w (w.alloc (.cells (zzu u lo lc fo fc go gc co cc) 27)):=zzE _ _;generalize w.alloc (.cells (zzu u lo lc fo fc go gc co cc) 27)=Wa at *;have HBA:=zzH hba;have c0:=hbx.c0;have c1:=hbx.c1;have hlt:=hbx.lt;clear hbx hba;generalize(⟨(txt u.vsn).toArray⟩:ByteArray)=T at *;have e1:(⟨#[32]⟩:ByteArray).size=1:=rfl;have ha1:=fun wx=>run_string_add_sum (P:=Tryz.prog) wx u.mdl ⟨#[32]⟩ (by rw [e1];omega)
 have e2:(u.mdl++(⟨#[32]⟩:ByteArray)).size=u.mdl.size+1:=by rw [ByteArray.size_append];rfl
 have ha2:=fun wx=>run_string_add_sum (P:=Tryz.prog) wx (u.mdl++⟨#[32]⟩) T (by rw [e2];omega)
 clear e1 e2
 go_region_held3 (fun w'=>w'.cell? ⟨w.heap.size,0,none⟩=some (.string u.mdl)/\w'.cell? ⟨w.heap.size,1,none⟩=some (.int .i64 u.vsn)) (exact⟨by assumption,by assumption⟩)
  (first|(go_at_call 50;refine(HT.out _).mono ?_;rintro e w5 ⟨rfl,hb5⟩;have q0:=(hb5.cell (p:=⟨w.heap.size,0,none⟩) hlt).trans c0;have q1:=(hb5.cell (p:=⟨w.heap.size,1,none⟩) hlt).trans c1;have qB:Below w.heap.size w w5:=HBA.out.drew.trans (hb5.mono HBA.out.size)))
 go_wp2;go_ret;exact⟨by rw [HI.out];rfl,qB⟩
theorem zbP (s:ByteArray):s.data.toList.length=s.size:=Array.length_toList
theorem zhu {k:IntKind} {a b:Int} (h:a=b):Ending.returned (.int k a)= .returned (.int k b):=by rw [h]
theorem zrV (s:ByteArray) (w:World) (hs:s.size<=maxLen):
  Calls Tryz.prog 49 #[.string s] w fun e w'=>e= .returned (.int .u32 (crc s.data.toList))/\w=w':=by
 unfold maxLen at hs;have HL:=zzH (zbP s);go_in;go_wp2;go_loop [3,4] (fun n i=> ∃k:Nat,k<=s.size/\i= .int .i64 k/\n= .int .u32 (zcN (s.data.toList.take k))) (fun _ i=>s.size-(intOf i).toNat)
 case atStart=>exact⟨0,zzZ _,rfl,rfl⟩
 case round=>
  obtain⟨k,hk,rfl,rfl⟩:=hrel;have hc:=zfz (s.data.toList.take k);by_cases hlt:k<s.size
  ·have HST:Hid (zcN (s.data.toList.take (k+1))=upd (zcN (s.data.toList.take k)) s[k]):=zzH (zhH (by rw [HL.out];exact hlt))
   generalize zcN (s.data.toList.take k)=c at *;have hx:=zcn c s[k].toNat hc (zgr _);have hcx:=zgt hc (zgr s[k]);have hb:s[k].toNat<256:=s[k].toNat_lt;generalize hx0:c ^^^ s[k].toNat=x at *;have HX0:=zzH hx0;clear hx0;go_wp2;go_loop [3,5] (fun n i=> ∃j:Nat,j<=8/\i= .int .i64 j/\n= .int .u32 (zb4 j x)) (fun _ i=>8-(intOf i).toNat)
   case atStart=>exact⟨0,zzZ _,rfl,rfl⟩
   case round=>
    obtain⟨j,hj,rfl,rfl⟩:=hrel;have hm:=zhX j hcx;by_cases hlj:j<8
    ·have HS:Hid (zb4 (j+1) x=zdD (zb4 j x)):=zzH (zio j x)
     generalize zb4 j x=m at *;by_cases par:m%2=1
     ·have hst:Hid (zdD m=(m/2) ^^^ 3988292384):=zzH (by unfold zdD;rw [if_pos par])
      have hp:((m:Int)%2==1)=true:=by rw [beq_iff_eq];omega
      have hx2:bits .xor .u32 ((m:Int)/2) 3988292384=(((m/2) ^^^ 3988292384:Nat):Int):=zcn (m/2) 3988292384 (by omega) (by decide);clear par;go_wp2;go_round
      case rel=>exact⟨j+1,by omega,by go_num,by rw [HS.out,hst.out]⟩
      case measure=>simp [intOf];omega
     ·have hst:Hid (zdD m=m/2):=zzH (by unfold zdD;rw [if_neg par])
      have hp:((m:Int)%2==1)=false:=by rw [zzq3];omega
      clear par;go_wp2;go_round
      case rel=>exact⟨j+1,by omega,by go_num,by rw [HS.out,hst.out];go_num⟩
      case measure=>simp [intOf];omega
    ·have e8:j=8:=by omega
     subst e8;have HU:Hid (upd c s[k]=zb4 8 x):=zzH (by unfold upd;rw [HX0.out]);exact zz3
  ·have hf:Hid (s.data.toList.take k=s.data.toList):=zzH (by rw [List.take_of_length_le (by rw [HL.out];omega)])
   go_wp2;go_ret;exact⟨zhu (by rw [hf.out];exact zcn (zcN s.data.toList) 4294967295 (zfz _) (by decide)),rfl⟩
theorem zfG (s:ByteArray) (w:World) (hs:s.size<=maxLen):
  Calls Tryz.prog 13 #[.string s] w fun e w'=>e= .returned (.int .u32 (crc s.data.toList))/\Below w.heap.size w w':=by
 unfold maxLen at hs;have HL:=zzH (zbP s);go_in;go_wp2
 have htab: ∀(w1:World),w1=w-> ∀r,r<16->(w1.alloc (.cells #[.int .u32 0,.int .u32 498536548,.int .u32 997073096,.int .u32 651767980,.int .u32 1994146192,.int .u32 1802195444,.int .u32 1303535960,.int .u32 1342533948,.int .u32 3988292384,.int .u32 4027552580,.int .u32 3604390888,.int .u32 3412177804,.int .u32 2607071920,.int .u32 2262029012,.int .u32 2685067896,.int .u32 3183342108] 83)).cell? ⟨w1.heap.size,r,none⟩=some (.int .u32 (tab r)):=fun w1 _ r hr=>by
  rw [World.cell?_alloc_at _ _ _ _ rfl]
  match r,hr with
  |0,_=>rfl
  |1,_=>rfl
  |2,_=>rfl
  |3,_=>rfl
  |4,_=>rfl
  |5,_=>rfl
  |6,_=>rfl
  |7,_=>rfl
  |8,_=>rfl
  |9,_=>rfl
  |10,_=>rfl
  |11,_=>rfl
  |12,_=>rfl
  |13,_=>rfl
  |14,_=>rfl
  |15,_=>rfl
  |r+16,h=>exact absurd h (by omega)
 have HB:=zzH (htab w rfl);clear htab;generalize hW:w.alloc _=W at *;have hbel:Below w.heap.size w W:=by rw [<-hW];exact zzE _ _
 have HW:=zzH hW;clear hW;go_loop [4,5] (fun n i=> ∃k:Nat,k<=s.size/\i= .int .i64 k/\n= .int .u32 (zcN (s.data.toList.take k))) (fun _ i=>s.size-(intOf i).toNat)
 case atStart=>exact⟨0,zzZ _,rfl,rfl⟩
 case round=>
  obtain⟨k,hk,rfl,rfl⟩:=hrel;have hc:=zfz (s.data.toList.take k);by_cases hlt:k<s.size
  ·have HST:Hid (zcN (s.data.toList.take (k+1))=upd (zcN (s.data.toList.take k)) s[k]):=zzH (zhH (by rw [HL.out];exact hlt))
   generalize zcN (s.data.toList.take k)=c at *;have hx:=zcn c s[k].toNat hc (zgr _);have hcx:=zgt hc (zgr s[k]);have hb:s[k].toNat<256:=s[k].toNat_lt;generalize hx0:c ^^^ s[k].toNat=x at *;have HX0:=zzH hx0;clear hx0;have HS1:Hid (zb4 4 x=(x/16) ^^^ tab (x%16)):=zzH (znW x);have hc1:=HB.out (x%16) (Nat.mod_lt _ (by decide));have ha1:=ziD x hcx;have hr1:x%16<16:=Nat.mod_lt _ (by decide);have ht1:=zpO (x%16) hr1;generalize x%16=r1 at *;generalize tab r1=t1 at *;have hx1:bits .xor .u32 ((x:Int)/16) (t1:Int)=(((x/16) ^^^ t1:Nat):Int):=zcn (x/16) t1 (by omega) ht1;have hcy:(x/16) ^^^ t1<4294967296:=zgt (by omega) ht1;generalize(x/16) ^^^ t1=y at *;have HS2:Hid (zb4 4 y=(y/16) ^^^ tab (y%16)):=zzH (znW y);have hc2:=HB.out (y%16) (Nat.mod_lt _ (by decide));have ha2:=ziD y hcy;have hr2:y%16<16:=Nat.mod_lt _ (by decide);have ht2:=zpO (y%16) hr2;generalize y%16=r2 at *;generalize tab r2=t2 at *;have hx2:bits .xor .u32 ((y:Int)/16) (t2:Int)=(((y/16) ^^^ t2:Nat):Int):=zcn (y/16) t2 (by omega) ht2;have HU:Hid (upd c s[k]=(y/16) ^^^ t2):=zzH (by rw [ztB,HX0.out,HS1.out,HS2.out]);exact zz3
  ·have hf:Hid (s.data.toList.take k=s.data.toList):=zzH (by rw [List.take_of_length_le (by rw [HL.out];omega)])
   go_wp2;go_ret;exact⟨zhu (by rw [hf.out];exact zqw (zcN s.data.toList) (zfz _)),hbel⟩
def be4 (n:Nat):List UInt8:=[UInt8.ofNat (n/16777216),UInt8.ofNat (n/65536),UInt8.ofNat (n/256),UInt8.ofNat n]
def zbF (b:Nat):Bool:=decide (97<=b/\b<=122)||(decide (65<=b/\b<=90)||decide (48<=b/\b<=57))
def nm (l:List UInt8):Bool:=decide (l.length=4)&&(!decide (l= [67,83,85,77])&&l.all fun b=>zbF b.toNat)
abbrev Ch:=ByteArray × ByteArray
def zeO (l:List Ch) (i:Nat):Bool:=nm l[i]!.1.data.toList&&decide (∀j,j<i->l[j]!.1.data.toList≠l[i]!.1.data.toList)
def dst (l:List Ch):Bool:=(List.range l.length).all (zeO l)
theorem zml {l:List Ch} (h: ∀i,i<l.length->zeO l i=true):dst l=true:=by
 unfold dst;rw [List.all_eq_true];intro x hx;exact h x (List.mem_range.1 hx)
theorem ziA {l:List Ch} {i:Nat} (hi:i<l.length) (h:zeO l i=false):dst l=false:=by
 unfold dst;rw [List.all_eq_false];exact⟨i,List.mem_range.2 hi,by simp [h]⟩
def zbm (n:Nat):Nat:=(n+3)/4*4
def chB (x:Ch):List UInt8:=x.1.data.toList++be4 x.2.size++x.2.data.toList++List.replicate (zbm x.2.size-x.2.size) 0
def szL (l:List Ch):Nat:=l.foldl (fun n x=>n+(8+zbm x.2.size)) 20
def zcZ (z:Nat) (l:List Ch):List UInt8:=l.foldl (fun acc x=>acc++chB x) ([83,72,78,68]++be4 (z-8))
def zbH (l:List Ch):List UInt8:=zcZ (szL l) l++([67,83,85,77]++be4 4)
def zix (l:List Ch):List UInt8:=zbH l++be4 (crc (zbH l))
def zbQ (l:List Ch):List UInt8:=if dst l=true then(if 16<l.length\/16777216<szL l then []else zix l)else []
def zbx (l:List Ch):Int:=if dst l=true then(if 16<l.length\/16777216<szL l then 3 else 0)else 2
def zf7 (l:List Ch):Prop:=l.length<=40/\ ∀j,j<l.length->l[j]!.2.size<=68719476736/\l[j]!.1.size<=100
theorem zjC {l:List Ch} {k:Nat} (h:k<l.length):l.take (k+1)=l.take k++ [l[k]!]:=by
 rw [List.take_succ_eq_append_getElem h];simp [h]
theorem zfg {l:List Ch} {k:Nat} (h:k<l.length):szL (l.take (k+1))=szL (l.take k)+(8+zbm l[k]!.2.size):=by
 rw [zjC h];simp [szL]
theorem zga {l:List Ch} {k:Nat} (z:Nat) (h:k<l.length):zcZ z (l.take (k+1))=zcZ z (l.take k)++chB l[k]!:=by
 rw [zjC h];simp [zcZ]
theorem zcS (n:Nat):n<=zbm n/\zbm n<=n+3:=by unfold zbm;omega
theorem zgo {l:List Ch} (h:zf7 l): ∀k,k<=l.length->szL (l.take k)<=20+k*68719476748/\20<=szL (l.take k)
 |0,_=>by simp [szL]
 |k+1,hk=>by
  have ih:=zgo h k (by omega);have h1:=(h.2 k (by omega)).1;have h2:=(zcS l[k]!.2.size).2
  rw [zfg (by omega)];omega
theorem zkM (l:List Ch) {k:Nat}: ∀m,k<=m->m<=l.length->szL (l.take k)<=szL (l.take m)
 |0,h,_=>by
  obtain rfl:k=0:=by omega
  exact zzL _
 |m+1,h,hm=>by
  by_cases hk:k=m+1
  ·subst hk;exact zzL _
  ·have ih:=zkM l (k:=k) m (by omega) (by omega)
   rw [zfg (by omega)];omega
theorem zrJ (l:List Ch) {k:Nat} (h:k<=l.length):szL (l.take k)<=szL l:=by
 have:=zkM l (k:=k) l.length h (zzL _)
 rwa [List.take_of_length_le (Nat.le_refl _)]at this
def zdI:List UInt8->Nat
 |[a,b,c,d]=>a.toNat*16777216+b.toNat*65536+c.toNat*256+d.toNat
 |_=>0
theorem zs0 {l:List UInt8} (h:l.length=4): ∃a b c d,l= [a,b,c,d]:=by
 rcases l with _|⟨a,_|⟨b,_|⟨c,_|⟨d,_|⟨e,l⟩⟩⟩⟩⟩<;>simp at h
 exact⟨a,b,c,d,rfl⟩
theorem zmc (l:List UInt8):zdI l<4294967296:=by
 unfold zdI;split
 ·rename_i a b c d
  have:=a.toNat_lt;have:=b.toNat_lt;have:=c.toNat_lt;have:=d.toNat_lt;omega
 ·decide
def zdz (r:List UInt8):Option (List UInt8 × List UInt8 × List UInt8):=
 if r.length<8 then none
 else if r.length<8+zbm (zdI ((r.drop 4).take 4))then none
 else if((r.drop (8+zdI ((r.drop 4).take 4))).take (zbm (zdI ((r.drop 4).take 4))-zdI ((r.drop 4).take 4))).all (· ==0)=true then
  some (r.take 4,(r.drop 8).take (zdI ((r.drop 4).take 4)),r.drop (8+zbm (zdI ((r.drop 4).take 4))))
 else none
def CSUM:List UInt8:=[67,83,85,77]
def zer:Nat->List Ch->List UInt8->Option (List Ch)
 |0,_,_=>none
 |n+1,acc,rest=>match zdz rest with
  |none=>none
  |some (nm,dt,r')=>if nm=CSUM then(if dt.length=4/\r'= []then some acc else none)else zer n (acc++ [(⟨nm.toArray⟩,⟨dt.toArray⟩)]) r'
theorem zm0 {r a b c:List UInt8} (h:zdz r=some (a,b,c)):c.length<=r.length:=by
 unfold zdz at h;split at h
 ·cases h
 ·split at h
  ·cases h
  ·split at h
   ·cases h
    rw [List.length_drop];omega
   ·cases h
theorem zjT {n:Nat} {acc:List Ch} {rest:List UInt8} (h:zdz rest=none):zer (n+1) acc rest=none:=by
 unfold zer;rw [h]
theorem zhn {n:Nat} {acc:List Ch} {rest dt r':List UInt8} (h:zdz rest=some (CSUM,dt,r')):zer (n+1) acc rest=if dt.length=4/\r'= []then some acc else none:=by
 unfold zer;rw [h];exact if_pos rfl
theorem zg9 {n:Nat} {acc:List Ch} {rest nm dt r':List UInt8} (h:zdz rest=some (nm,dt,r')) (hn:nm≠CSUM):zer (n+1) acc rest=zer n (acc++ [(⟨nm.toArray⟩,⟨dt.toArray⟩)]) r':=by
 conv=>lhs;unfold zer
 rw [h];exact if_neg hn
theorem zke: ∀{n:Nat} {acc:List Ch} {rest:List UInt8} {l:List Ch},zer n acc rest=some l->l.length<=acc.length+n
 |0,_,_,_,h=>by cases h
 |n+1,acc,rest,l,h=>by
  cases hc:zdz rest with
  |none=>rw [zjT hc]at h;cases h
  |some p=>
   obtain⟨nm,dt,r'⟩:=p;by_cases hn:nm=CSUM
   ·subst hn
    rw [zhn hc]at h;split at h
    ·cases h;omega
    ·cases h
   ·rw [zg9 hc hn]at h
    have:=zke h;simp at this;omega
def zgH:List UInt8:=[83,72,78,68]
def zfl (b:List UInt8):Option (List Ch):=
 if b.length<8 then none
 else if b.take 4=zgH/\zdI ((b.drop 4).take 4)=b.length-8 then(match zer 17 [] (b.drop 8)with
  |none=>none
  |some l=>if dst l=true then some l else none)
 else none
def zi4 (b:List UInt8):List Ch:=
 if 16777216<b.length then []else match zfl b with
  |none=>[]
  |some l=>if be4 (crc (b.take (b.length-4)))=b.drop (b.length-4)then l else []
def zfN (b:List UInt8):Int:=
 if 16777216<b.length then 3 else match zfl b with
  |none=>6
  |some _=>if be4 (crc (b.take (b.length-4)))=b.drop (b.length-4)then 0 else 260
theorem zdk {a b:Bool} (h:a=b):Ending.returned (.bool a)= .returned (.bool b):=by rw [h]
def zes (cs:List UInt8):Array Value:=(cs.map fun b=>Value.int .u8 (b.toNat:Int)).toArray
theorem zkn {cs:List UInt8} {j:Nat} (h:j<cs.length):(zes cs)[j]?=some (.int .u8 (cs[j].toNat:Int)):=by simp [zes,h]
theorem zlm (B k L c:Nat) (l cs:List UInt8) (t:TypeId) (fr:Nat × Nat) (w:World) (hh:w.heap[B]?=some (.cells (zes cs) t fr)) (e:l=(cs.drop k).take L) (hL:k+L<=cs.length):
  (convert 65 9 (.slice (some ⟨B,k,none⟩) L c)).run Tryz.prog w= .ok (.string ⟨l.toArray⟩) w:=by
 subst e
 have:=run_convert_bytes_back (P:=Tryz.prog) w 65 9 5 ⟨B,k,none⟩ c ((cs.drop k).take L) Tryz.underlying65 Tryz.underlying5 Tryz.underlying9 (fun j hj=>by
  have hp:(⟨B,k,none⟩:Addr).add j=⟨B,k+j,none⟩:=by unfold Addr.add;split<;>simp_all
  rw [hp,zzq2 _ _ _ _ _ _ hh,zkn (by simp at hj;omega)];simp)
 rw [List.length_take,List.length_drop,Nat.min_eq_left (by omega)]at this;exact this
theorem zqJ (m:Nat):((UInt8.ofNat m).toNat:Int)=(m:Int)%256:=by
 rw [UInt8.toNat_ofNat'];omega
theorem zkc (m:Nat) (w:World):
  (convert 65 9 (.slice (some ⟨w.heap.size,0,none⟩) 4 4)).run Tryz.prog (w.alloc (.cells #[.int .u8 ((m:Int)/16777216%256),.int .u8 ((m:Int)/65536%256),.int .u8 ((m:Int)/256%256),.int .u8 ((m:Int)%256)] 5))= .ok (.string ⟨(be4 m).toArray⟩) (w.alloc (.cells #[.int .u8 ((m:Int)/16777216%256),.int .u8 ((m:Int)/65536%256),.int .u8 ((m:Int)/256%256),.int .u8 ((m:Int)%256)] 5)):=by
 have e:zes (be4 m)=#[.int .u8 ((m:Int)/16777216%256),.int .u8 ((m:Int)/65536%256),.int .u8 ((m:Int)/256%256),.int .u8 ((m:Int)%256)]:=by
  simp only [zes,be4,List.map_cons,List.map_nil,zqJ,Int.natCast_ediv]
  rfl
 rw [<-e];exact zlm w.heap.size 0 4 4 (be4 m) (be4 m) _ (0,0) _ (zzF _ _) rfl (zzL _)
theorem zsB (x:Nat) (hx:x<9223372036854775808):bits .andNot .i64 (x:Int) 3=((x/4*4:Nat):Int):=by
 have h1:(BitVec.ofInt 64 (x:Int)).toNat=x:=by
  exact zz2
 have h2:(~~~ (BitVec.ofInt 64 3)).toNat=18446744073709551612:=by decide
 show IntKind.i64.wrap ((BitVec.ofInt 64 (x:Int)&&& ~~~ (BitVec.ofInt 64 3)).toNat:Int)=_;rw [BitVec.toNat_and,h1,h2];have a1:=Nat.and_div_two_pow (a:=x) (b:=18446744073709551612) (n:=2);have a2:=Nat.and_mod_two_pow (a:=x) (b:=18446744073709551612) (n:=2);have a3:(18446744073709551612:Nat)/2^2=2^62-1:=by decide
 have a4:(18446744073709551612:Nat)%2^2=0:=by decide
 rw [a3,Nat.and_two_pow_sub_one_eq_mod]at a1;rw [a4,Nat.and_zero]at a2;rw [zzq5];omega
theorem zdj (n:Int) (w:World) (h0:0<=n) (h1:n<=9223372036854775807):
  Calls Tryz.prog 26 #[.int .i64 n] w fun e w'=>e= .returned (.string ⟨(be4 n.toNat).toArray⟩)/\Below w.heap.size w w':=by
 obtain⟨m,rfl⟩:=zzJ h0;rw [zzq16];have hcv:=zkc m w;go_in;go_wp2;go_ret;exact⟨rfl,zzE _ _⟩
theorem zgA (n:Int) (w:World) (h0:0<=n) (h1:n<=9223372036854775807):
  Calls Tryz.prog 48 #[.int .i64 n] w fun e w'=>e= .returned (.string ⟨(be4 n.toNat).toArray⟩)/\Below w.heap.size w w':=by
 obtain⟨m,rfl⟩:=zzJ h0;rw [zzq16];have hcv:=zkc m w;go_in;go_wp2;go_ret;exact⟨rfl,zzE _ _⟩
theorem zfK (n:Int) (w:World) (h0:0<=n) (h1:n<=9223372036854775000):
  Calls Tryz.prog 24 #[.int .i64 n] w fun e w'=>e= .returned (.int .i64 ((n+3)/4*4))/\w=w':=by
 go_in;go_wp2;go_ret;obtain⟨m,rfl⟩:=zzJ h0;exact⟨zhu ((zsB (m+3) (by omega)).trans (by omega)),rfl⟩
open Go.RowKit Go.Shelf Go.Lib
theorem zsS {b:Nat} (h:zbF b=true):b<128:=by
 unfold zbF at h;simp at h;omega
theorem zjm {b:Nat} (h:128<=b):zbF b=false:=by
 cases hb:zbF b with
 |false=>rfl
 |true=>have:=zsS hb;omega
theorem znu (W:World) (r:Nat):FnGives Tryz.prog 100 #[] #[encR r] (.bool (!zbF r)) W:=by
 unfold FnGives encR
 have hx: ∀b,zbF r=b->FnGives Tryz.prog 100 #[] #[.int .i32 r] (.bool (!b)) W:=by
  intro b hb;unfold FnGives;by_cases h1:97<=r
  ·by_cases h2:r<=122
   ·exact zz5
   ·exact zz4
  ·by_cases h3:65<=r
   ·by_cases h4:r<=90
    ·exact zz5
    ·exact zz4
   ·by_cases h5:48<=r
    ·by_cases h6:r<=57
     ·exact zz5
     ·exact zz4
    ·exact zz4
 exact hx _ rfl
theorem zlV (s:ByteArray): ∀(f pos:Nat),s.size<=pos+f->(0<=Lib.idxFuncFrom (fun r=>!zbF r) true s f pos↔ ∃j,∃h:j<s.size,pos<=j/\zbF s[j].toNat=false)
 |0,pos,hf=>by
  unfold Lib.idxFuncFrom;constructor
  ·intro h;omega
  ·rintro⟨j,h,hj,_⟩;omega
 |f+1,pos,hf=>by
  unfold Lib.idxFuncFrom;by_cases hp:pos<s.size
  ·rw [if_pos hp]
   by_cases hi:128<=s[pos].toNat
   ·have hd:=(decode_high s pos hp hi).1
    have:(!zbF (Utf8.decode s pos).1)=true:=by rw [zjm hd];rfl
    rw [if_pos this];exact⟨fun _=>⟨pos,hp,zzL _,zjm hi⟩,fun _=>by omega⟩
   ·rw [decode_ascii s pos hp (by omega)]
    cases ha:zbF s[pos].toNat with
    |false=>
     rw [if_pos (by simp)];exact⟨fun _=>⟨pos,hp,zzL _,ha⟩,fun _=>by omega⟩
    |true=>
     rw [if_neg (by simp),zlV s f (pos+1) (by omega)];constructor
     ·rintro⟨j,h,hj,hn⟩;exact⟨j,h,by omega,hn⟩
     ·rintro⟨j,h,hj,hn⟩
      refine⟨j,h,?_,hn⟩;rcases Nat.eq_or_lt_of_le hj with e|e
      ·subst e;rw [ha]at hn;cases hn
      ·exact e
  ·rw [if_neg hp]
   constructor
   ·intro h;omega
   ·rintro⟨j,h,hj,_⟩;omega
theorem zk5 (s:ByteArray):decide (0<=Lib.idxFunc (fun r=>!zbF r) true s)= !(s.data.toList.all fun b=>zbF b.toNat):=by
 have hi:=zlV s s.size 0 (by omega);unfold Lib.idxFunc
 cases hb:s.data.toList.all fun b=>zbF b.toNat with
 |true=>
  have:=zzp.1 hb;refine zzD (fun h=>?_);obtain⟨j,h,_,hn⟩:=hi.1 h;have h2:=this s[j] (zzM (by rw [zbP];exact h));rw [hn]at h2;cases h2
 |false=>
  have:=List.all_eq_false.1 hb;obtain⟨x,hx,hn⟩:=this;obtain⟨j,hj,rfl⟩:=List.getElem_of_mem hx;refine zzT (hi.2 ⟨j,by rw [zbP]at hj;exact hj,zzZ _,?_⟩);show zbF s.data.toList[j].toNat=false
  cases h:zbF s.data.toList[j].toNat with
  |false=>rfl
  |true=>exact absurd h hn
theorem zhl (s:ByteArray) (w:World):
  Calls Tryz.prog 64 #[.string s] w fun e w'=>e= .returned (.bool (nm s.data.toList))/\Below w.heap.size w w':=by
 have HL:=zzH (zbP s);by_cases h4:s.size=4
 ·have hl4:((s.size:Int)==4)=true:=by rw [h4];rfl
  by_cases hc:s.data.toList= [67,83,85,77]
  ·have E:Hid (nm s.data.toList=false):=zzH (by rw [hc];rfl)
   have h2:(s.toList== [67,83,85,77])=true:=by rw [zzq14,hc];rfl
   clear hc h4;go_in;go_wp2;go_ret;exact⟨zdk E.out.symm,zzR _ _⟩
  ·have E:Hid (nm s.data.toList= !decide (0<=Lib.idxFunc (fun r=>!zbF r) true s)):=zzH (by
    rw [zk5];unfold nm;rw [decide_eq_true (by rw [HL.out];exact h4),decide_eq_false hc];simp)
   have h2:(s.toList== [67,83,85,77])=false:=by rw [zzq14];simpa using hc
   clear hc h4;go_in;go_wp2_with (go_at_call 99;refine(Tryz.strings_ContainsFunc 100 #[] (enters_of Tryz.func100 (by kernel_rfl) rfl) (fun r=>!zbF r) s _ (fun W x _=>znu W x)).mono ?_;rintro e w1 ⟨rfl,hb1⟩);go_ret;exact⟨zdk E.out.symm,hb1⟩
 ·have hl4:((s.size:Int)==4)=false:=by rw [zzq3];omega
  have E:Hid (nm s.data.toList=false):=zzH (by unfold nm;rw [decide_eq_false (by rw [HL.out];exact h4)];rfl);clear h4;go_in;go_wp2;go_ret;exact⟨zdk E.out.symm,zzR _ _⟩
open Go.RowKit Go.Maps Go.WideMaps
def zeq (last:Int) (f:RFunc):Bool:=zw f.name&&(wi f.arity 0 16&&wi f.entry 0 last)
def zcj (l:List RFunc) (s:ByteArray) (a:Int):Bool:=l.any (fun f=>f.name.data.toList==s.data.toList&&f.arity==a)
def zdN (last:Int) (funcs:List RFunc):Bool:=decide (∀k,(h:k<funcs.length)->zeq last funcs[k]=true/\zcj (funcs.take k) funcs[k].name funcs[k].arity=false)
def zct (last:Int) (f:RFun):Bool:=wi f.arity 0 16&&(wi f.free 0 200&&wi f.entry 0 last)
def zgE (u:RUnit):Bool:=zw u.mdl&&(decide (1<=u.vsn)&&(decide (u.vsn<=2147483647)&&(decide (0<=(u.code.length:Int)-1)&&(decide ((u.code.length:Int)-1<524288)&&(decide (u.lits.length<=65535)&&(decide (u.funcs.length<=200)&&decide (u.funs.length<=1000)))))))
def zM (f:Nat) (u:RUnit):Bool:=zgE u&&(u.lits.all (zA f)&&(zdN ((u.code.length:Int)-1) u.funcs&&u.funs.all (zct ((u.code.length:Int)-1))))
theorem zjw {last:Int} {funcs:List RFunc} {k:Nat} (h:k<funcs.length) (e:zeq last funcs[k]=false\/zcj (funcs.take k) funcs[k].name funcs[k].arity=true):zdN last funcs=false:=by
 unfold zdN
 exact zzD (fun hh=>by
  obtain⟨h1,h2⟩:=hh k h;rcases e with e|e
  ·rw [h1]at e;cases e
  ·rw [h2]at e;cases e)
theorem zni {funcs:List RFunc} {k:Nat} (h:k<funcs.length) (s:ByteArray) (a:Int):zcj (funcs.take (k+1)) s a=((funcs[k].name.data.toList==s.data.toList&&funcs[k].arity==a)||zcj (funcs.take k) s a):=by
 unfold zcj;rw [List.take_add_one,zzq11 h,List.any_append,Bool.or_comm];simp
theorem znx (f B:Nat) (u:RUnit) (lo fo go co:zzA) (lc fc gc cc:Nat) (w:World) (hu:UBox w B u lo fo go co lc fc gc cc) (hp:UP w u lo fo go co) (hlits:SlAt w 9 (TmAt w (f+1)) lo u.lits) (hcap: ∀t∈u.lits,(zG (f+1) t:Int)<=1152921504606846976):
  Calls Tryz.prog 68 #[.pointer (some ⟨B,0,none⟩)] w fun e w'=>e= .returned (.bool (zM (f+1) u))/\Below w.heap.size w w':=by
 refine zzK4 hu hp hlits hcap fun HU HP HL HCAP=>?_;have c0:=hu.c0;have c5:=hu.c5;have hnm:=fun wx=>zd6 u.mdl wx
 have HE:Hid (zM (f+1) u=(zgE u&&(u.lits.all (zA (f+1))&&(zdN ((u.code.length:Int)-1) u.funcs&&u.funs.all (zct ((u.code.length:Int)-1)))))):=zzH rfl;have HA:Hid (zgE u=(zw u.mdl&&(decide (1<=u.vsn)&&(decide (u.vsn<=2147483647)&&(decide (0<=(u.code.length:Int)-1)&&(decide ((u.code.length:Int)-1<524288)&&(decide (u.lits.length<=65535)&&(decide (u.funcs.length<=200)&&decide (u.funs.length<=1000))))))))):=zzH rfl;have hla:IntKind.i64.wrap ((u.code.length:Int)-1)=(u.code.length:Int)-1:=by have:=hp.codeLen;rw [zzq5];omega
 have hmm:= @run_makeMap Tryz.prog;have HMM:=zzH hmm;clear hmm;have hla64:wrap64 ((u.code.length:Int)-1)=(u.code.length:Int)-1:=by have:=hp.codeLen;first|exact hla|(unfold wrap64;omega)
 have hrng: -1<=(u.code.length:Int)-1/\(u.code.length:Int)-1<=9223372036854775807:=by have:=hp.codeLen;omega
 clear hu hp hlits hcap hla;generalize hlast:(u.code.length:Int)-1=last at *;obtain⟨hrng1,hrng2⟩:=hrng;have hlw:wrap64 ((u.code.length:Int)-1)=last:=by rw [hlast];exact hla64
 clear hla64;have HLAST:=zzH hlast;clear hlast;by_cases hn:zw u.mdl=true
 rotate_left
 ·skip
  have hnf:zw u.mdl=false:=by cases h:zw u.mdl with
   |false=>rfl
   |true=>exact absurd h hn
  rw [hnf]at hnm;have E:Hid (zM (f+1) u=false):=zzH (by rw [HE.out,HA.out,hnf];rfl);clear hn hnf;exact zz53
 rw [hn]at hnm;by_cases hv1:1<=u.vsn
 rotate_left
 ·skip
  have hv1f:u.vsn<1:=by omega
  have E:Hid (zM (f+1) u=false):=zzH (by rw [HE.out,HA.out,decide_eq_false (p:=1<=u.vsn) (by omega)];simp);clear hv1;exact zz53
 by_cases hv2:u.vsn<=2147483647
 rotate_left
 ·skip
  have hv2f:2147483647<u.vsn:=by omega
  have E:Hid (zM (f+1) u=false):=zzH (by rw [HE.out,HA.out,decide_eq_false (p:=u.vsn<=2147483647) (by omega)];simp);clear hv2;exact zz53
 by_cases hl0:0<=last
 rotate_left
 ·skip
  have hl0f:last<0:=by omega
  have E:Hid (zM (f+1) u=false):=zzH (by rw [HE.out,HA.out,decide_eq_false (p:=0<=last) (by omega)];simp);clear hl0;exact zz53
 by_cases hl1:last<524288
 rotate_left
 ·skip
  have hl1f:524288<=last:=by omega
  have E:Hid (zM (f+1) u=false):=zzH (by rw [HE.out,HA.out,decide_eq_false (p:=last<524288) (by omega)];simp);clear hl1;exact zz53
 by_cases hq1:(u.lits.length:Int)<=65535
 rotate_left
 ·skip
  have hq1f:65535<(u.lits.length:Int):=by omega
  have E:Hid (zM (f+1) u=false):=zzH (by rw [HE.out,HA.out,decide_eq_false (p:=u.lits.length<=65535) (by omega)];simp);clear hq1;exact zz53
 by_cases hq2:(u.funcs.length:Int)<=200
 rotate_left
 ·skip
  have hq2f:200<(u.funcs.length:Int):=by omega
  have E:Hid (zM (f+1) u=false):=zzH (by rw [HE.out,HA.out,decide_eq_false (p:=u.funcs.length<=200) (by omega)];simp);clear hq2;exact zz53
 by_cases hq3:(u.funs.length:Int)<=1000
 rotate_left
 ·skip
  have hq3f:1000<(u.funs.length:Int):=by omega
  have E:Hid (zM (f+1) u=false):=zzH (by rw [HE.out,HA.out,decide_eq_false (p:=u.funs.length<=1000) (by omega)];simp);clear hq3;exact zz53
 have HA1:Hid (zgE u=true):=zzH (by rw [HA.out,hn,decide_eq_true hv1,decide_eq_true hv2,decide_eq_true hl0,decide_eq_true hl1,decide_eq_true (p:=u.lits.length<=65535) (by omega),decide_eq_true (p:=u.funcs.length<=200) (by omega),decide_eq_true (p:=u.funs.length<=1000) (by omega)];rfl);have HE1:Hid (zM (f+1) u=(u.lits.all (zA (f+1))&&(zdN last u.funcs&&u.funs.all (zct last)))):=zzH (by rw [HE.out,HA1.out,zzq15]);clear HE HA hn;go_in;go_wp2_with fail;refine(hnm _).mono ?_;rintro e w5 ⟨rfl,hb5⟩;have HU5:=zzH (HU.out.below hb5);have d1:=HU5.out.c1;have d2:=HU5.out.c2;have d3:=HU5.out.c3;have d4:=HU5.out.c4;have HB5:=zzH hb5;have HI:Hid (u.lits.all (zA (f+1))=(u.lits.drop 0).all (zA (f+1))):=zzH rfl;clear hb5;go_wp2_with fail;go_loopw [73] (fun i wr=> ∃k:Nat,k<=u.lits.length/\i= .int .i64 k/\Hid (u.lits.all (zA (f+1))=(u.lits.drop k).all (zA (f+1)))/\Below w.heap.size w wr) (fun i _=>u.lits.length-(intOf i).toNat)
 case atStart=>exact⟨0,zzZ _,rfl,HI,HB5.out⟩
 case round=>
  obtain⟨k,hk,rfl,HK,hBw⟩:=hrel;rename World=>wr
  by_cases hlt:k<u.lits.length
  ·obtain⟨b1,off1,ai,ci,hao,hb1,q0,q1,q2,q3,q4,q5,q6,q7,q8,hit,hok⟩:=(HL.out.tms hBw).tm hlt
   subst hao;have HST:Hid ((u.lits.drop k).all (zA (f+1))=(zA (f+1) u.lits[k]&&(u.lits.drop (k+1)).all (zA (f+1)))):=zzH (by rw [List.drop_eq_getElem_cons hlt,List.all_cons]);have hbx:Below wr.heap.size wr (wr.alloc (.cells (zzt u.lits[k] ai ci) 55)):=zzE _ _;have hV:=zeZ f u.lits[k] ai ci (wr.alloc (.cells (zzt u.lits[k] ai ci) 55)) (hit.tms hbx) hok (HCAP.out _ (zzM hlt));have HBX:=zzH (hBw.trans (hbx.mono hBw.size));clear hit hok hbx hBw;generalize zA (f+1) u.lits[k]=v at *;generalize u.lits[k]=x at *
   cases v with
   |true=>
    have HK2:Hid (u.lits.all (zA (f+1))=(u.lits.drop (k+1)).all (zA (f+1))):=zzH (by rw [HK.out,HST.out,zzq15]);go_wp2_with fail;refine hV.mono ?_;rintro e w6 ⟨rfl,hb6⟩;have HB6:=zzH (HBX.out.trans (hb6.mono HBX.out.size));go_wp2_with fail;go_roundw
    case rel=>exact⟨k+1,by omega,by go_num,HK2,HB6.out⟩
    case measure=>simp [intOf];omega
   |false=>
    have E:Hid (zM (f+1) u=false):=zzH (by rw [HE1.out,HK.out,HST.out];rfl);go_wp2_with fail;refine hV.mono ?_;rintro e w6 ⟨rfl,hb6⟩;have HB6:=zzH (HBX.out.trans (hb6.mono HBX.out.size));go_wp2;go_ret;exact⟨zn E.out.symm,HB6.out⟩
  ·have HE2:Hid (zM (f+1) u=(zdN last u.funcs&&u.funs.all (zct last))):=zzH (by rw [HE1.out,HK.out,zzq8 (by omega)];rfl)
   have e3:=(HU.out.below hBw).c3;have hBl:=(HU.out.below hBw).lt;have hma:Below wr.heap.size wr (wr.alloc (.map #[] 0)):=zzE _ _;have HSG:=zzH (zq2 wr);have HBM:=zzH (hBw.trans (hma.mono hBw.size));have hMge:w.heap.size<=wr.heap.size:=hBw.size;have f3:=(hma.cell (p:=⟨B,3,none⟩) hBl).trans e3;have hmm:=HMM.out;clear hma;go_wp2_with fail;clear hmm;generalize wr.alloc (.map #[] 0)=W at *;generalize wr.heap.size=M at *;clear e3 HMM;have HFN:Hid (∀j,j<0-> ∀h:j<u.funcs.length,zeq last u.funcs[j]=true/\zcj (u.funcs.take j) u.funcs[j].name u.funcs[j].arity=false):=zzH (fun j h=>absurd h (zzC _));have hW:M<W.heap.size:=HSG.out.lt;have HS0:Hid (SigIs W M 0 (fun s a=>zcj (u.funcs.take 0) s a)):=zzH HSG.out;clear HSG;obtain⟨wo,rfl⟩: ∃wo:World,wo=W:=⟨_,rfl⟩;go_loopw [87] (fun i wr=> ∃k:Nat,k<=u.funcs.length/\i= .int .i64 k/\Hid (SigIs wr M k (fun s a=>zcj (u.funcs.take k) s a))/\Hid (∀j,j<k-> ∀h:j<u.funcs.length,zeq last u.funcs[j]=true/\zcj (u.funcs.take j) u.funcs[j].name u.funcs[j].arity=false)/\Below w.heap.size w wr) (fun i _=>u.funcs.length-(intOf i).toNat)
   case atStart=>exact⟨0,zzZ _,rfl,HS0,HFN,HBM.out⟩
   case round=>
    obtain⟨k,hk,rfl,HSK,HFK,hBw⟩:=hrel;rename World=>wr
    by_cases hlt:k<u.funcs.length
    ·obtain⟨b1,off1,hfo,hb1,q0,q1,q2,q3,n1,n2,n3⟩:=(HP.out.below hBw).funcs.func hlt
     subst hfo;have hstep:=zni hlt;have HSTEP:=zzH hstep;have hno:=zjw (last:=last) hlt;have HNO:=zzH hno
     have HYES:Hid (zeq last u.funcs[k]=true->zcj (u.funcs.take k) u.funcs[k].name u.funcs[k].arity=false-> ∀j,j<k+1-> ∀h:j<u.funcs.length,zeq last u.funcs[j]=true/\zcj (u.funcs.take j) u.funcs[j].name u.funcs[j].arity=false):=zzH (fun h1 h2 j hj h=>by
      rcases Nat.eq_or_lt_of_le (Nat.le_of_lt_succ hj)with e|e
      ·subst e;exact⟨h1,h2⟩
      ·exact HFK.out j e h)
     have hFO:zeq last u.funcs[k]=(zw u.funcs[k].name&&(wi u.funcs[k].arity 0 16&&wi u.funcs[k].entry 0 last)):=rfl;have HFO:=zzH hFO;clear hstep hno hFO;have HBW:=zzH hBw;have hnf:=fun wx=>zd6 u.funcs[k].name wx
     have hwa:=fun wx=>zO u.funcs[k].arity 0 16 wx
     have hwe:=fun wx=>zO u.funcs[k].entry 0 last wx
     have hpl:w.heap.size<=wr.heap.size:=hBw.size;unfold maxLen at n1;generalize zeq last u.funcs[k]=fk at *;generalize hsn:zcj (u.funcs.take k) u.funcs[k].name u.funcs[k].arity=sn at *;have HSN:=zzH hsn;clear hsn;generalize zw u.funcs[k].name=vn at *;generalize wi u.funcs[k].arity 0 16=va at *;generalize wi u.funcs[k].entry 0 last=ve at *;generalize u.funcs[k]=g at *;have hbx:=zU wr (.cells #[.string g.name,.int .i64 g.arity,.bool g.pub,.int .i64 g.entry] 57) (.cells #[.string g.name,.int .i64 g.arity] 178);have hr0:=zfD wr (.cells #[.string g.name,.int .i64 g.arity,.bool g.pub,.int .i64 g.entry] 57) (.cells #[.string g.name,.int .i64 g.arity] 178);have hr1:=zeR wr (.cells #[.string g.name,.int .i64 g.arity,.bool g.pub,.int .i64 g.entry] 57) (.cells #[.string g.name,.int .i64 g.arity] 178);refine zzK3 hbx hr0 hr1 fun HBX HR0 HR1=>?_;clear hbx hr0 hr1 hBw
     cases vn with
     |false=>
      have E:Hid (zM (f+1) u=false):=zzH (by rw [HE2.out,HNO.out (.inl (by rw [HFO.out];rfl))];rfl);go_wp2_with fail;refine(hnf _).mono ?_;rintro e w6 ⟨rfl,hb6⟩;have HB6:=zzH (HBW.out.trans ((zd HBX.out hb6).mono HBW.out.size));clear hb6;go_wp2;go_ret;exact⟨zn E.out.symm,HB6.out⟩
     |true=>
      go_wp2_with fail;refine(hnf _).mono ?_;rintro e w6 ⟨rfl,hb6⟩;have HB6w:=zzH (zd HBX.out hb6);have HB6:=zzH (HBW.out.trans (HB6w.out.mono HBW.out.size));have hs0:=(hb6.block wr.heap.size (zc HR0.out)).trans HR0.out;have hs1:=(hb6.block (wr.heap.size+1) (zc HR1.out)).trans HR1.out;have y0:w6.cell? ⟨wr.heap.size,0,none⟩=some (.string g.name):=by rw [zzq2 _ _ _ _ _ _ hs0];rfl
      have y1:w6.cell? ⟨wr.heap.size,1,none⟩=some (.int .i64 g.arity):=by rw [zzq2 _ _ _ _ _ _ hs0];rfl
      have y3:w6.cell? ⟨wr.heap.size,3,none⟩=some (.int .i64 g.entry):=by rw [zzq2 _ _ _ _ _ _ hs0];rfl
      have z0:w6.cell? ⟨wr.heap.size+1,0,none⟩=some (.string g.name):=by rw [zzq2 _ _ _ _ _ _ hs1];rfl
      have z1:w6.cell? ⟨wr.heap.size+1,1,none⟩=some (.int .i64 g.arity):=by rw [zzq2 _ _ _ _ _ _ hs1];rfl
      have hsig:=HSK.out.kept HB6w.out;have hlook:=zrC hsig n1 n2;rw [HSN.out]at hlook;have HSIG:=zzH hsig;clear hb6 hs0 hs1 hsig
      cases va with
      |false=>
       exact zz52
      |true=>
       cases ve with
       |false=>
        exact zz52
       |true=>
        cases sn with
        |true=>
         have E:Hid (zM (f+1) u=false):=zzH (by rw [HE2.out,HNO.out (.inr rfl)];rfl);go_wp2_with (go_at_call 110;first|((with_reducible refine(hwa _).mono ?_);rintro e w1 ⟨rfl,rfl⟩)|((with_reducible refine(hwe _).mono ?_);rintro e w1 ⟨rfl,rfl⟩));go_ret;exact⟨zn E.out.symm,HB6.out⟩
        |false=>
         obtain⟨D,hown,hD⟩:=HSIG.out;have hput:=fun(w7:World) h=>ztz (w':=w7) hown hD n1 n2 h
         have HPUT:=zzH hput;have HDD:=zzH hD;clear hput hD;go_wp2_with (first|(go_at_call 110;first|((with_reducible refine(hwa _).mono ?_);rintro e w1 ⟨rfl,rfl⟩)|((with_reducible refine(hwe _).mono ?_);rintro e w1 ⟨rfl,rfl⟩))|(at_mapUpdate;refine wpList_mapUpdate_own _ rfl _ _ _ 176 rfl 178 4 sigLaw Tryz.underlying176 _ M k D rfl hown (by unfold maxLen;omega) _ _ _ rfl rfl (zfx n1 n2) _ [] (plainElem_bool Tryz.underlying4 true) ?_));intro w7 hown7 hgrow7
         have HSK2:Hid (SigIs w7 M (k+1) (fun s a=>zcj (u.funcs.take (k+1)) s a)):=zzH (by
          obtain⟨D',a1,a2⟩:=HPUT.out w7 hown7;exact⟨D',a1,fun s a hs ha=>(a2 s a hs ha).trans (congrArg (fun b=>DataW.lit (Lit.bool b)) (HSTEP.out s a).symm)⟩)
         have HY2:=zzH (HYES.out (by rw [HFO.out];rfl) (by trivial));have HB7:=zzH (HB6.out.grown hgrow7 HB6.out.size (fun j hj=>by cases hj;exact hMge));clear hown hown7 hgrow7;go_wp2_with fail;go_roundw
         case rel=>exact⟨k+1,by omega,by go_num,HSK2,HY2,HB7.out⟩
         case measure=>simp [intOf];omega
    ·have HFB:Hid (zdN last u.funcs=true):=zzH (by unfold zdN;exact zzT (fun j hj=>HFK.out j (by omega) hj))
     have HE3:Hid (zM (f+1) u=u.funs.all (zct last)):=zzH (by rw [HE2.out,HFB.out,zzq15]);have e4:=(HU.out.below hBw).c4;have HBW:=zzH hBw;have HI3:Hid (u.funs.all (zct last)=(u.funs.drop 0).all (zct last)):=zzH rfl;clear hBw HSK HFK;obtain⟨wp,rfl⟩: ∃wp:World,wp=wr:=⟨_,rfl⟩;go_wp2_with fail;go_loopw [126] (fun i wr=> ∃k:Nat,k<=u.funs.length/\i= .int .i64 k/\Hid (u.funs.all (zct last)=(u.funs.drop k).all (zct last))/\Below w.heap.size w wr) (fun i _=>u.funs.length-(intOf i).toNat)
     case atStart=>exact⟨0,zzZ _,rfl,HI3,HBW.out⟩
     case round=>
      obtain⟨k,hk,rfl,HK,hBw⟩:=hrel;rename World=>wr
      by_cases hlt:k<u.funs.length
      ·obtain⟨b1,off1,hgo,hb1,q0,q1,q2,n1,n2,n3⟩:=(HP.out.below hBw).funs.fn hlt
       subst hgo;have HST:Hid ((u.funs.drop k).all (zct last)=(zct last u.funs[k]&&(u.funs.drop (k+1)).all (zct last))):=zzH (by rw [List.drop_eq_getElem_cons hlt,List.all_cons]);have HFB2:Hid (zct last u.funs[k]=(wi u.funs[k].arity 0 16&&(wi u.funs[k].free 0 200&&wi u.funs[k].entry 0 last))):=zzH rfl;have hwa:=fun wx=>zO u.funs[k].arity 0 16 wx
       have hwf:=fun wx=>zO u.funs[k].free 0 200 wx
       have hwe:=fun wx=>zO u.funs[k].entry 0 last wx
       generalize zct last u.funs[k]=fk at *;generalize wi u.funs[k].arity 0 16=va at *;generalize wi u.funs[k].free 0 200=vf at *;generalize wi u.funs[k].entry 0 last=ve at *;generalize u.funs[k]=g at *;have HBX:=zzH (hBw.alloc hBw.size (.cells #[.int .i64 g.arity,.int .i64 g.free,.int .i64 g.entry] 59));have hyes:fk=true->u.funs.all (zct last)=(u.funs.drop (k+1)).all (zct last):=fun h=>by rw [HK.out,HST.out,h,zzq15]
       have hno:fk=false->zM (f+1) u=false:=fun h=>by rw [HE3.out,HK.out,HST.out,h];rfl
       have HYES:=zzH hyes;have HNO:=zzH hno;clear hyes hno hBw
       cases va with
       |false=>
        exact zz51
       |true=>
        cases vf with
        |false=>
         exact zz51
        |true=>
         cases ve with
         |false=>
          exact zz51
         |true=>
          have E:=zzH (HYES.out (by rw [HFB2.out];rfl));go_wp2_with (go_at_call 110;first|((with_reducible refine(hwa _).mono ?_);rintro e w1 ⟨rfl,rfl⟩)|((with_reducible refine(hwf _).mono ?_);rintro e w1 ⟨rfl,rfl⟩)|((with_reducible refine(hwe _).mono ?_);rintro e w1 ⟨rfl,rfl⟩));go_roundw
          case rel=>exact⟨k+1,by omega,by go_num,E,HBX.out⟩
          case measure=>simp [intOf];omega
      ·have E:Hid (zM (f+1) u=true):=zzH (by rw [HE3.out,HK.out,zzq8 (by omega)];rfl)
       go_wp2;go_ret;exact⟨zn E.out.symm,hBw⟩
theorem zdC (n a b:Int) (w:World):Calls Tryz.prog 171 #[.int .i64 n,.int .i64 a,.int .i64 b] w fun e w'=>e= .returned (.bool (wi n a b))/\w=w':=by
 exact zz141
def zbE (k i g:Int) (n f:ByteArray) (a:Int) (l:Nat) (y:ByteArray) (z:Int):Bool:=zI k&&(zI i&&(zI g&&(zS n&&(zS f&&(zI a&&(decide (l=0)&&(zS y&&zI z)))))))
theorem zoY (t:Tm):zbE 0 (ze t).int (ze t).gen (ze t).name (ze t).func (ze t).arity (ze t).items.length (ze t).bytes (ze t).bits=zce 1 (zf9 t) ze0:=by
 rw [zjo];unfold zbE zf9 zL;simp only [Tm.kind,Tm.int,Tm.gen,Tm.name,Tm.func,Tm.arity,Tm.items,Tm.bytes,Tm.bits]
 ac_rfl
theorem zdn (t:Tm):(okK t&&zbE 0 (ze t).int (ze t).gen (ze t).name (ze t).func (ze t).arity (ze t).items.length (ze t).bytes (ze t).bits)=zcm t:=by rw [zoY];exact zpu 0 t
theorem zej (s:ByteArray):(s.toList== [])=zS s:=by
 have:=zr1 s;rw [zzq14 (ByteArray.mk #[])]at this;exact this
theorem zcB (k i g:Int) (n f:ByteArray) (a:Int) (so:zzA) (l c:Nat) (y:ByteArray) (z:Int) (w:World) (hl:l<=9223372036854775807):
  Calls Tryz.prog 169 #[.agg #[.int .i64 k,.int .i64 i,.int .i64 g,.string n,.string f,.int .i64 a,.slice so l c,.string y,.int .i64 z]] w fun e w'=>e= .returned (.bool (zbE k i g n f a l y z))/\Below w.heap.size w w':=by
 have HB:=zzH ((zzR w.heap.size w).alloc (zzL _) (.cells #[.int .i64 k,.int .i64 i,.int .i64 g,.string n,.string f,.int .i64 a,.slice so l c,.string y,.int .i64 z] 55));have HZ:Hid (zbE k i g n f a l y z=(zI k&&(zI i&&(zI g&&(zS n&&(zS f&&(zI a&&(decide (l=0)&&(zS y&&zI z))))))))):=zzH rfl;generalize zbE k i g n f a l y z=r at *
 cases h0:zI k with
 |false=>
  have t0:(k==0)=false:=(zeT k).trans h0;have E:Hid (r=false):=zzH (by rw [HZ.out,h0];rfl);clear h0;exact zz142
 |true=>
  have t0:(k==0)=true:=(zeT k).trans h0
  cases h1:zI i with
  |false=>
   have t1:(i==0)=false:=(zeT i).trans h1;have E:Hid (r=false):=zzH (by rw [HZ.out,h0,h1];rfl);clear h0 h1;exact zz142
  |true=>
   have t1:(i==0)=true:=(zeT i).trans h1
   cases h2:zI g with
   |false=>
    have t2:(g==0)=false:=(zeT g).trans h2;have E:Hid (r=false):=zzH (by rw [HZ.out,h0,h1,h2];rfl);clear h0 h1 h2;exact zz142
   |true=>
    have t2:(g==0)=true:=(zeT g).trans h2
    cases h3:zS n with
    |false=>
     have t3:(n.toList== [])=false:=(zej n).trans h3;have u3:n.toList.isEmpty=false:=by rw [<-t3];cases n.toList<;>rfl
     have E:Hid (r=false):=zzH (by rw [HZ.out,h0,h1,h2,h3];rfl);clear h0 h1 h2 h3;exact zz142
    |true=>
     have t3:(n.toList== [])=true:=(zej n).trans h3;have u3:n.toList.isEmpty=true:=by rw [<-t3];cases n.toList<;>rfl
     cases h4:zS f with
     |false=>
      have t4:(f.toList== [])=false:=(zej f).trans h4;have u4:f.toList.isEmpty=false:=by rw [<-t4];cases f.toList<;>rfl
      have E:Hid (r=false):=zzH (by rw [HZ.out,h0,h1,h2,h3,h4];rfl);clear h0 h1 h2 h3 h4;exact zz142
     |true=>
      have t4:(f.toList== [])=true:=(zej f).trans h4;have u4:f.toList.isEmpty=true:=by rw [<-t4];cases f.toList<;>rfl
      cases h5:zI a with
      |false=>
       have t5:(a==0)=false:=(zeT a).trans h5;have E:Hid (r=false):=zzH (by rw [HZ.out,h0,h1,h2,h3,h4,h5];rfl);clear h0 h1 h2 h3 h4 h5;exact zz142
      |true=>
       have t5:(a==0)=true:=(zeT a).trans h5
       cases h6:decide (l=0)with
       |false=>
        have t6:((l:Int)==0)=false:=by rw [<-h6,Bool.eq_iff_iff,beq_iff_eq,zzq7];omega
        have E:Hid (r=false):=zzH (by rw [HZ.out,h0,h1,h2,h3,h4,h5,h6];rfl);clear h0 h1 h2 h3 h4 h5 h6;exact zz142
       |true=>
        have t6:((l:Int)==0)=true:=by rw [<-h6,Bool.eq_iff_iff,beq_iff_eq,zzq7];omega
        cases h7:zS y with
        |false=>
         have t7:(y.toList== [])=false:=(zej y).trans h7;have u7:y.toList.isEmpty=false:=by rw [<-t7];cases y.toList<;>rfl
         have E:Hid (r=false):=zzH (by rw [HZ.out,h0,h1,h2,h3,h4,h5,h6,h7];rfl);clear h0 h1 h2 h3 h4 h5 h6 h7;exact zz142
        |true=>
         have t7:(y.toList== [])=true:=(zej y).trans h7;have u7:y.toList.isEmpty=true:=by rw [<-t7];cases y.toList<;>rfl
         cases h8:zI z with
         |false=>
          have t8:(z==0)=false:=(zeT z).trans h8;have E:Hid (r=false):=zzH (by rw [HZ.out,h0,h1,h2,h3,h4,h5,h6,h7,h8];rfl);clear h0 h1 h2 h3 h4 h5 h6 h7 h8;exact zz142
         |true=>
          have t8:(z==0)=true:=(zeT z).trans h8;have E:Hid (r=true):=zzH (by rw [HZ.out,h0,h1,h2,h3,h4,h5,h6,h7,h8];rfl);exact zz142
theorem zdr (w:World) (a b:Obj):((w.alloc a).alloc b).heap[w.heap.size+1]?=some b:=by
 have:=zzF (w.alloc a) b
 rwa [show(w.alloc a).heap.size=w.heap.size+1 by simp]at this
def zem (w:World) (t:Tm) (e:Ending) (w':World):Prop:= ∃so' c',e= .returned (.agg #[.int .i64 0,.int .i64 (ze t).int,.int .i64 (ze t).gen,.string (ze t).name,.string (ze t).func,.int .i64 (ze t).arity,.slice so' (ze t).items.length c',.string (ze t).bytes,.int .i64 (ze t).bits])/\Below w.heap.size w w'
theorem zcA (t:Tm) (so:zzA) (c:Nat) (w:World):Calls Tryz.prog 170 #[.agg (zzt t so c)] w (zem w t):=by
 unfold zzt;obtain⟨tk,ti,tg,tn,tf,ta,tl,ty,tz⟩:=t;simp only [Tm.kind,Tm.int,Tm.gen,Tm.name,Tm.func,Tm.arity,Tm.items,Tm.bytes,Tm.bits];by_cases h:tk=1\/tk=2\/tk=3\/tk=4\/tk=5\/tk=6\/tk=7\/tk=9\/tk=10
 ·rcases h with rfl|rfl|rfl|rfl|rfl|rfl|rfl|rfl|rfl
  ·have HN:=zzH (zdr w (.cells #[.int .i64 0,.int .i64 0,.int .i64 tg,.string tn,.string tf,.int .i64 ta,.slice so tl.length c,.string ty,.int .i64 tz] 55) (.cells #[.int .i64 0,.int .i64 0,.int .i64 tg,.string tn,.string tf,.int .i64 ta,.slice so tl.length c,.string ty,.int .i64 tz] 55))
   have HB:Hid (Below w.heap.size w ((w.alloc (.cells #[.int .i64 0,.int .i64 0,.int .i64 tg,.string tn,.string tf,.int .i64 ta,.slice so tl.length c,.string ty,.int .i64 tz] 55)).alloc (.cells #[.int .i64 0,.int .i64 0,.int .i64 tg,.string tn,.string tf,.int .i64 ta,.slice so tl.length c,.string ty,.int .i64 tz] 55))):=zzH ((zzE _ _).alloc (by simp) _);exact zz145
  ·have HN:=zzH (zdr w (.cells #[.int .i64 0,.int .i64 ti,.int .i64 tg,.string ⟨#[]⟩,.string tf,.int .i64 ta,.slice so tl.length c,.string ty,.int .i64 tz] 55) (.cells #[.int .i64 0,.int .i64 ti,.int .i64 tg,.string ⟨#[]⟩,.string tf,.int .i64 ta,.slice so tl.length c,.string ty,.int .i64 tz] 55))
   have HB:Hid (Below w.heap.size w ((w.alloc (.cells #[.int .i64 0,.int .i64 ti,.int .i64 tg,.string ⟨#[]⟩,.string tf,.int .i64 ta,.slice so tl.length c,.string ty,.int .i64 tz] 55)).alloc (.cells #[.int .i64 0,.int .i64 ti,.int .i64 tg,.string ⟨#[]⟩,.string tf,.int .i64 ta,.slice so tl.length c,.string ty,.int .i64 tz] 55))):=zzH ((zzE _ _).alloc (by simp) _);exact zz145
  ·exact zz143
  ·have HN:=zzH (zdr w (.cells #[.int .i64 0,.int .i64 0,.int .i64 0,.string ⟨#[]⟩,.string tf,.int .i64 0,.slice none 0 0,.string ty,.int .i64 tz] 55) (.cells #[.int .i64 0,.int .i64 0,.int .i64 0,.string ⟨#[]⟩,.string tf,.int .i64 0,.slice none 0 0,.string ty,.int .i64 tz] 55))
   have HB:Hid (Below w.heap.size w ((w.alloc (.cells #[.int .i64 0,.int .i64 0,.int .i64 0,.string ⟨#[]⟩,.string tf,.int .i64 0,.slice none 0 0,.string ty,.int .i64 tz] 55)).alloc (.cells #[.int .i64 0,.int .i64 0,.int .i64 0,.string ⟨#[]⟩,.string tf,.int .i64 0,.slice none 0 0,.string ty,.int .i64 tz] 55))):=zzH ((zzE _ _).alloc (by simp) _);go_in;go_wp2_with fail;refine zzj (results_cell_row rfl _ _ (w.heap.size+1) _ _ _ _ rfl HN.out Tryz.underlying55 rfl (by kernel_rfl)) rfl ?_;exact⟨none,0,rfl,HB.out⟩
  ·have HN:=zzH (zdr w (.cells #[.int .i64 0,.int .i64 ti,.int .i64 tg,.string ⟨#[]⟩,.string ⟨#[]⟩,.int .i64 0,.slice so tl.length c,.string ty,.int .i64 tz] 55) (.cells #[.int .i64 0,.int .i64 ti,.int .i64 tg,.string ⟨#[]⟩,.string ⟨#[]⟩,.int .i64 0,.slice so tl.length c,.string ty,.int .i64 tz] 55))
   have HB:Hid (Below w.heap.size w ((w.alloc (.cells #[.int .i64 0,.int .i64 ti,.int .i64 tg,.string ⟨#[]⟩,.string ⟨#[]⟩,.int .i64 0,.slice so tl.length c,.string ty,.int .i64 tz] 55)).alloc (.cells #[.int .i64 0,.int .i64 ti,.int .i64 tg,.string ⟨#[]⟩,.string ⟨#[]⟩,.int .i64 0,.slice so tl.length c,.string ty,.int .i64 tz] 55))):=zzH ((zzE _ _).alloc (by simp) _);exact zz145
  ·exact zz143
  ·exact zz144
  ·exact zz144
  ·have HN:=zzH (zdr w (.cells #[.int .i64 0,.int .i64 ti,.int .i64 tg,.string tn,.string tf,.int .i64 ta,.slice so tl.length c,.string ⟨#[]⟩,.int .i64 0] 55) (.cells #[.int .i64 0,.int .i64 ti,.int .i64 tg,.string tn,.string tf,.int .i64 ta,.slice so tl.length c,.string ⟨#[]⟩,.int .i64 0] 55))
   have HB:Hid (Below w.heap.size w ((w.alloc (.cells #[.int .i64 0,.int .i64 ti,.int .i64 tg,.string tn,.string tf,.int .i64 ta,.slice so tl.length c,.string ⟨#[]⟩,.int .i64 0] 55)).alloc (.cells #[.int .i64 0,.int .i64 ti,.int .i64 tg,.string tn,.string tf,.int .i64 ta,.slice so tl.length c,.string ⟨#[]⟩,.int .i64 0] 55))):=zzH ((zzE _ _).alloc (by simp) _);exact zz145
 ·have b1:(tk==1)=false:=zzB.2 (fun e=>h (by omega))
  have b2:(tk==2)=false:=zzB.2 (fun e=>h (by omega));have b3:(tk==3)=false:=zzB.2 (fun e=>h (by omega));have b4:(tk==4)=false:=zzB.2 (fun e=>h (by omega));have b5:(tk==5)=false:=zzB.2 (fun e=>h (by omega));have b6:(tk==6)=false:=zzB.2 (fun e=>h (by omega));have b7:(tk==7)=false:=zzB.2 (fun e=>h (by omega));have b9:(tk==9)=false:=zzB.2 (fun e=>h (by omega));have b10:(tk==10)=false:=zzB.2 (fun e=>h (by omega))
  have HQ:Hid (ze (Tm.mk tk ti tg tn tf ta tl ty tz)=Tm.mk tk ti tg tn tf ta tl ty tz):=zzH (by
   simp only [not_or]at h;obtain⟨h1,h2,h3,h4,h5,h6,h7,h9,h10⟩:=h;unfold ze;simp only [Tm.kind];simp only [h1,h2,h3,h4,h5,h6,h7,h9,h10,if_false,or_self]
   try(split<;>rfl))
  clear h;have HN:=zzH (zdr w (.cells #[.int .i64 0,.int .i64 ti,.int .i64 tg,.string tn,.string tf,.int .i64 ta,.slice so tl.length c,.string ty,.int .i64 tz] 55) (.cells #[.int .i64 0,.int .i64 ti,.int .i64 tg,.string tn,.string tf,.int .i64 ta,.slice so tl.length c,.string ty,.int .i64 tz] 55));have HB:Hid (Below w.heap.size w ((w.alloc (.cells #[.int .i64 0,.int .i64 ti,.int .i64 tg,.string tn,.string tf,.int .i64 ta,.slice so tl.length c,.string ty,.int .i64 tz] 55)).alloc (.cells #[.int .i64 0,.int .i64 ti,.int .i64 tg,.string tn,.string tf,.int .i64 ta,.slice so tl.length c,.string ty,.int .i64 tz] 55))):=zzH ((zzE _ _).alloc (by simp) _);go_in;go_wp2_with fail;refine zzj (results_cell_row rfl _ _ (w.heap.size+1) _ _ _ _ rfl HN.out Tryz.underlying55 rfl (by kernel_rfl)) rfl ?_;exact⟨so,c,by rw [HQ.out];rfl,HB.out⟩
theorem zrc (j:Nat):(2:Nat)^(j+1)=2^j*2:=Nat.pow_succ ..
theorem ztH: ∀j,j<=7->(2:Nat)^j<=128/\1<=(2:Nat)^j:=by decide
theorem zo6 (k i g:Int) (n f:ByteArray) (a:Int) (so:zzA) (l c:Nat) (y:ByteArray) (z:Int) (w:World) (hy:y.size<=9223372036854775807) (hz:I64 z):
  Calls Tryz.prog 172 #[.agg #[.int .i64 k,.int .i64 i,.int .i64 g,.string n,.string f,.int .i64 a,.slice so l c,.string y,.int .i64 z]] w fun e w'=>e= .returned (.bool (zcf y z))/\Below w.heap.size w w':=by
 have HB:=zzH ((zzR w.heap.size w).alloc (zzL _) (.cells #[.int .i64 k,.int .i64 i,.int .i64 g,.string n,.string f,.int .i64 a,.slice so l c,.string y,.int .i64 z] 55));obtain⟨za,zb⟩:=hz;by_cases h0:z<0
 ·exact zz146
 ·by_cases h1:16384<z
  ·exact zz146
  ·have z0:0<=z:=by omega
   have z1:z<=16384:=by omega
   have E0:zcf y z=(decide ((y.size:Int)=(z+7)/8)&&(decide (z%8=0)||decide (zf0 y%2^(8-z%8).toNat=0))):=by unfold zcf;rw [zev z0 z1];rfl
   clear h0 h1;by_cases hl:(y.size:Int)=(z+7)/8
   ·have hlb:((y.size:Int)!=(z+7)/8)=false:=by rw [bne_eq_false_iff_eq];exact hl
    by_cases hr:z%8=0
    ·have E:Hid (zcf y z=true):=zzH (by rw [E0,decide_eq_true hl,decide_eq_true hr];rfl)
     have hrb:(z%8==0)=true:=by rw [beq_iff_eq];exact hr
     clear hl hr E0;exact zz142
    ·obtain⟨m,hm⟩: ∃m,y.size=m+1:=⟨y.size-1,by omega⟩
     obtain⟨r,hrr⟩: ∃r:Nat,z%8=(r:Int):=⟨(z%8).toNat,by omega⟩;have hr1:1<=r:=by omega
     have hr7:r<=7:=by omega
     have hmi:m<y.size:=by omega
     have E:Hid (zcf y z=decide (y[m].toNat%2^(8-r)=0)):=zzH (by
      rw [E0,decide_eq_true hl,decide_eq_false hr,zhE hm,hrr,show(8-(r:Int)).toNat=8-r by omega]
      rfl)
     have hrb:(z%8==0)=false:=zzB.2 hr;have hw1:IntKind.i64.wrap ((y.size:Int)-1)=(m:Int):=by rw [zzq5];omega
     have hidx:(y.size:Int)-1=(m:Int):=by omega
     have HM:=zzH hm;clear hr E0 hl hm;go_in;go_wp2_with fail;generalize hbb:y[m].toNat=lb at *;have hlb2:lb<256:=by rw [<-hbb];exact UInt8.toNat_lt _
     have HRR:=zzH hrr;have hwl:wrap64 ((lb:Nat):Int)=(lb:Int):=by unfold wrap64;omega
     have HWL:=zzH hwl;clear hbb hrr hw1 hidx hrb hlb hwl;go_loop [4,5] (fun uv iv=> ∃(j p:Nat),r+j<=8/\iv= .int .i64 ((r+j:Nat):Int)/\uv= .int .i64 (p:Int)/\Hid (p=2^j)/\1<=p/\p<=256) (fun _ iv=>8-(intOf iv).toNat)
     case atStart=>exact⟨0,1,by omega,by(have h9:=HRR.out;go_num),by go_num,zzH rfl,by decide,by decide⟩
     case round=>
      obtain⟨j,p,hj,rfl,rfl,HP,hp1,hp2⟩:=hrel;by_cases hlt:r+j<8
      ·have hp7:p<=128:=by rw [HP.out];exact(ztH j (by omega)).1
       have HP2:Hid (p*2=2^(j+1)):=zzH (by rw [zrc,HP.out]);go_wp2_with fail;go_round
       case rel=>exact⟨j+1,p*2,by omega,by go_num,by go_num,HP2,by omega,by omega⟩
       case measure=>simp [intOf];omega
      ·have hj8:j=8-r:=by omega
       have E2:Hid (zcf y z=(((lb:Int)%(p:Int))==0)):=zzH (by
        rw [E.out,HP.out,hj8,Bool.eq_iff_iff,zzq7,beq_iff_eq];constructor
        ·intro h;exact_mod_cast h
        ·intro h;exact_mod_cast h)
       have hp0:((p:Int)==0)=false:=by rw [zzq3];omega
       clear hj8;go_wp2_with fail
       all_goals go_ret
       all_goals exact⟨zn (by rw [HWL.out,Int.tmod_eq_emod_of_nonneg (by omega)];exact E2.out.symm),HB.out⟩
   ·have hlb:((y.size:Int)!=(z+7)/8)=true:=by rw [bne_iff_ne];exact hl
    have E:Hid (zcf y z=false):=zzH (by rw [E0,decide_eq_false hl];rfl);clear hl E0;exact zz142
theorem zmg {t:Tm} (h:okK t=true):0<=zR t/\zR t<=300+t.items.length:=by
 unfold zR;by_cases h9:t.kind=9
 ·rw [if_pos h9]
  unfold okK at h;rw [if_neg (by omega),if_neg (by omega),if_neg (by omega),if_neg (by omega),if_neg (by omega),if_neg (by omega),if_neg (by omega),if_pos h9,zzq6,zzq7]at h;omega
 ·rw [if_neg h9]
  by_cases h10:t.kind=10
  ·rw [if_pos h10]
   unfold okK at h;rw [if_neg (by omega),if_neg (by omega),if_neg (by omega),if_neg (by omega),if_neg (by omega),if_neg (by omega),if_neg (by omega),if_neg h9,if_pos h10]at h;unfold zgy zcf at h;rw [zzq6,zzq6]at h;have:=h.1.1;unfold wi at this;rw [zzq6,zzq7,zzq7]at this;omega
  ·rw [if_neg h10];omega
theorem zgL {f:Nat} (ih: ∀t,zj f t=true->0<=zt f t/\zt f t<=(zG f t:Int)): ∀(l:List Tm),l.all (zj f)=true->0<=zbB (l.map (zt f))/\zbB (l.map (zt f))<=(zbR (l.map (zG f)):Int)
 |[],_=>⟨Int.le_refl _,Int.le_refl _⟩
 |t::l,h=>by
  rw [List.all_cons,zzq6]at h;have h1:=ih t h.1;have h2:=zgL ih l h.2;show 0<=zt f t+zbB (l.map (zt f))/\zt f t+zbB (l.map (zt f))<=((zG f t+zbR (l.map (zG f)):Nat):Int);omega
theorem zd9: ∀(f:Nat) (t:Tm),zj f t=true->0<=zt f t/\zt f t<=(zG f t:Int)
 |0,_,h=>by cases h
 |f+1,t,h=>by
  unfold zj at h;rw [zzq6]at h;have hl:=h.1;unfold zcm at hl;rw [zzq6]at hl;have h1:=zmg hl.1;have h2:=zgL (zd9 f) t.items h.2;show 0<=zR t+zbB (t.items.map (zt f))/\zR t+zbB (t.items.map (zt f))<=((300+t.items.length+zbR (t.items.map (zG f)):Nat):Int);omega
theorem zjG {f:Nat} {l:List Tm} (h:l.all (zj f)=true) (k:Nat):(l.drop k).all (zj f)=true:=by
 rw [List.all_eq_true]at h ⊢;exact fun x hx=>h x (List.mem_of_mem_drop hx)
theorem zbM (w:World) (t:Tm) (so:zzA) (c:Nat):(w.alloc (.cells #[.int .i64 t.kind,.int .i64 t.int,.int .i64 t.gen,.string t.name,.string t.func,.int .i64 t.arity,.slice so t.items.length c,.string t.bytes,.int .i64 t.bits] 55)).heap[w.heap.size]?=some (.cells #[.int .i64 t.kind,.int .i64 t.int,.int .i64 t.gen,.string t.name,.string t.func,.int .i64 t.arity,.slice so t.items.length c,.string t.bytes,.int .i64 t.bits] 55 (0,0)):=zzF _ _
theorem zjL: ∀(l:List Nat) (x:Nat),x∈l->x<=zbR l
 |[],_,h=>by cases h
 |y::l,x,h=>by
  show x<=y+zbR l;rcases List.mem_cons.1 h with rfl|h
  ·omega
  ·have:=zjL l x h;omega
def zk2 (f:Nat):Prop:= ∀(t:Tm) (so:Option Addr) (c:Nat) (w:World),SlAt w 9 (TmAt w f) so t.items->t.Ok->zj (f+1) t=true->(zG (f+1) t:Int)<=1152921504606846976 ->
 Calls Tryz.prog 149 #[.agg #[.int .i64 t.kind,.int .i64 t.int,.int .i64 t.gen,.string t.name,.string t.func,.int .i64 t.arity,.slice so t.items.length c,.string t.bytes,.int .i64 t.bits]] w fun e w'=>e= .returned (.int .i64 (zt (f+1) t))/\Below w.heap.size w w'
def zj5 (f:Nat) (t:Tm) (so:Option Addr) (Wa:World) (TV:Int):Prop:= ∀(k:Nat) (s:Int) (wr:World) (hlt:k<t.items.length),Below Wa.heap.size Wa wr->TV=s+zbB ((t.items.drop k).map (zt f)) ->
 ∃b2 off ai ci,so=some ⟨b2,off,none⟩/\b2<wr.heap.size/\wr.cell? ⟨b2,off+k*9,none⟩=some (.int .i64 t.items[k].kind)/\wr.cell? ⟨b2,off+k*9+1,none⟩=some (.int .i64 t.items[k].int) /\
   wr.cell? ⟨b2,off+k*9+2,none⟩=some (.int .i64 t.items[k].gen)/\wr.cell? ⟨b2,off+k*9+3,none⟩=some (.string t.items[k].name)/\wr.cell? ⟨b2,off+k*9+4,none⟩=some (.string t.items[k].func) /\
   wr.cell? ⟨b2,off+k*9+5,none⟩=some (.int .i64 t.items[k].arity)/\wr.cell? ⟨b2,off+k*9+6,none⟩=some (.slice ai t.items[k].items.length ci)/\wr.cell? ⟨b2,off+k*9+7,none⟩=some (.string t.items[k].bytes) /\
   wr.cell? ⟨b2,off+k*9+8,none⟩=some (.int .i64 t.items[k].bits) /\
   (Calls Tryz.prog 149 #[.agg #[.int .i64 t.items[k].kind,.int .i64 t.items[k].int,.int .i64 t.items[k].gen,.string t.items[k].name,.string t.items[k].func,.int .i64 t.items[k].arity,.slice ai t.items[k].items.length ci,.string t.items[k].bytes,.int .i64 t.items[k].bits]] wr fun e w'=>e= .returned (.int .i64 (zt f t.items[k]))/\Below wr.heap.size wr w')/\TV=(s+zt f t.items[k])+zbB ((t.items.drop (k+1)).map (zt f))/\0<=zt f t.items[k]/\(s+zt f t.items[k]<=1152921504606846976)
def zhS (f:Nat) (t:Tm) (so:Option Addr) (w:World):Prop:= ∀(Wa:World),Below w.heap.size w Wa->zj5 f t so Wa (zt (f+1) t)
theorem zlp (f:Nat) (t:Tm) (so:zzA) (c:Nat) (w:World) (hsl:SlAt w 9 (TmAt w f) so t.items) (hok:t.Ok) (hform:zj (f+1) t=true) (hcap:(zG (f+1) t:Int)<=1152921504606846976) (hrec:zhS f t so w) (hk:t.kind=9):
  Calls Tryz.prog 149 #[.agg (zzt t so c)] w fun e w'=>e= .returned (.int .i64 (zt (f+1) t))/\Below w.heap.size w w':=by
 unfold zzt;have hwc:=zd9 (f+1) t hform;have HTV0:Hid (zt (f+1) t=zR t+zbB ((t.items.drop 0).map (zt f))):=zzH rfl
 have hown:0<=zR t/\zR t<=300+t.items.length:=by
  exact zz148
 have hil:t.items.length<=1152921504606846976:=by
  exact zz149
 have hownc:zR t<=1152921504606846976:=by
  exact zz150
 have HOWN:Hid (zR t=(t.items.length:Int)-1):=zzH (by unfold zR;rw [if_pos hk]);have HKD:=zzH hk;clear hk;have HTV:Hid (zt (f+1) t=((t.items.length:Int)-1)+zbB ((t.items.drop 0).map (zt f))):=zzH (by rw [HTV0.out,HOWN.out]);have HSL:=zzH hsl;have HREC0:=zzH hrec;rw [HOWN.out]at hown hownc;obtain⟨hown0,hown1⟩:=hown;clear hsl hrec hform hcap hwc HTV0;unfold zhS at HREC0;generalize zt (f+1) t=TV at *;go_in;go_upto_region 2 with fail;have hbx:=zbM w t so c;have hba:Below w.heap.size w (w.alloc (.cells (zzt t so c) 55)):=zzE _ _;generalize w.alloc (.cells (zzt t so c) 55)=Wa at *;have HS:Hid (SlAt Wa 9 (TmAt Wa f) so t.items):=zzH (SlAt.tms HSL.out hba);generalize hBz:w.heap.size=B at *;refine zzK3 hBz hba hbx fun HBZ HBA HBX=>?_;clear hBz hba;have hlb:=zc hbx;have c0:Wa.cell? ⟨B,0,none⟩=some (.int .i64 t.kind):=by rw [zzq2 _ _ _ _ _ _ hbx];rfl
 rw [HKD.out]at c0;have c6:Wa.cell? ⟨B,6,none⟩=some (.slice so t.items.length c):=by rw [zzq2 _ _ _ _ _ _ hbx];rfl
 have c8:Wa.cell? ⟨B,8,none⟩=some (.int .i64 t.bits):=by rw [zzq2 _ _ _ _ _ _ hbx];rfl
 clear hbx;have HFIN:Hid (∀wx,Below Wa.heap.size Wa wx->Below B w wx):=zzH (fun wx hh=>HBA.out.trans (hh.mono (by have:=HBA.out.size;have:=HBZ.out;omega)));have HREC:Hid (zj5 f t so Wa TV):=zzH (HREC0.out Wa HBA.out);go_wp2_with fail;go_loopw [3,4] (fun nv iv wr=> ∃(k:Nat) (s:Int),k<=t.items.length/\iv= .int .i64 k/\nv= .int .i64 s/\Hid (TV=s+zbB ((t.items.drop k).map (zt f)))/\0<=s/\s<=1152921504606846976/\Hid (Below Wa.heap.size Wa wr)) (fun _ iv _=>t.items.length-(intOf iv).toNat)
 case atStart=>exact⟨0,((t.items.length:Int)-1),zzZ _,rfl,by go_num,HTV,by omega,by omega,zzH (zzR _ _)⟩
 case round=>
  exact zz147
theorem zmz (f:Nat) (t:Tm) (so:zzA) (c:Nat) (w:World) (hsl:SlAt w 9 (TmAt w f) so t.items) (hok:t.Ok) (hform:zj (f+1) t=true) (hcap:(zG (f+1) t:Int)<=1152921504606846976) (hrec:zhS f t so w) (hk:t.kind=10):
  Calls Tryz.prog 149 #[.agg (zzt t so c)] w fun e w'=>e= .returned (.int .i64 (zt (f+1) t))/\Below w.heap.size w w':=by
 unfold zzt;have hwc:=zd9 (f+1) t hform;have HTV0:Hid (zt (f+1) t=zR t+zbB ((t.items.drop 0).map (zt f))):=zzH rfl
 have hown:0<=zR t/\zR t<=300+t.items.length:=by
  exact zz148
 have hil:t.items.length<=1152921504606846976:=by
  exact zz149
 have hownc:zR t<=1152921504606846976:=by
  exact zz150
 have HOWN:Hid (zR t=1+(t.bits+63)/64):=zzH (by unfold zR;rw [if_neg (by omega),if_pos hk])
 have hbt:0<=t.bits/\t.bits<=16384:=by
  unfold zj at hform;rw [zzq6]at hform;have h:=hform.1;unfold zcm at h;rw [zzq6]at h;have h:=h.1;unfold okK at h;rw [if_neg (by omega),if_neg (by omega),if_neg (by omega),if_neg (by omega),if_neg (by omega),if_neg (by omega),if_neg (by omega),if_neg (by omega),if_pos hk]at h;unfold zgy zcf at h;rw [zzq6,zzq6]at h;have:=h.1.1;unfold wi at this;rw [zzq6,zzq7,zzq7]at this;exact this
 obtain⟨hbt0,hbt1⟩:=hbt;have HKD:=zzH hk;clear hk;have HTV:Hid (zt (f+1) t=(1+(t.bits+63)/64)+zbB ((t.items.drop 0).map (zt f))):=zzH (by rw [HTV0.out,HOWN.out]);have HSL:=zzH hsl;have HREC0:=zzH hrec;rw [HOWN.out]at hown hownc;obtain⟨hown0,hown1⟩:=hown;clear hsl hrec hform hcap hwc HTV0;unfold zhS at HREC0;generalize zt (f+1) t=TV at *;go_in;go_upto_region 2 with fail;have hbx:=zbM w t so c;have hba:Below w.heap.size w (w.alloc (.cells (zzt t so c) 55)):=zzE _ _;generalize w.alloc (.cells (zzt t so c) 55)=Wa at *;have HS:Hid (SlAt Wa 9 (TmAt Wa f) so t.items):=zzH (SlAt.tms HSL.out hba);generalize hBz:w.heap.size=B at *;refine zzK3 hBz hba hbx fun HBZ HBA HBX=>?_;clear hBz hba;have hlb:=zc hbx;have c0:Wa.cell? ⟨B,0,none⟩=some (.int .i64 t.kind):=by rw [zzq2 _ _ _ _ _ _ hbx];rfl
 rw [HKD.out]at c0;have c6:Wa.cell? ⟨B,6,none⟩=some (.slice so t.items.length c):=by rw [zzq2 _ _ _ _ _ _ hbx];rfl
 have c8:Wa.cell? ⟨B,8,none⟩=some (.int .i64 t.bits):=by rw [zzq2 _ _ _ _ _ _ hbx];rfl
 clear hbx;have HFIN:Hid (∀wx,Below Wa.heap.size Wa wx->Below B w wx):=zzH (fun wx hh=>HBA.out.trans (hh.mono (by have:=HBA.out.size;have:=HBZ.out;omega)));have HREC:Hid (zj5 f t so Wa TV):=zzH (HREC0.out Wa HBA.out);go_wp2_with fail;go_loopw [3,4] (fun nv iv wr=> ∃(k:Nat) (s:Int),k<=t.items.length/\iv= .int .i64 k/\nv= .int .i64 s/\Hid (TV=s+zbB ((t.items.drop k).map (zt f)))/\0<=s/\s<=1152921504606846976/\Hid (Below Wa.heap.size Wa wr)) (fun _ iv _=>t.items.length-(intOf iv).toNat)
 case atStart=>exact⟨0,(1+(t.bits+63)/64),zzZ _,rfl,by go_num,HTV,by omega,by omega,zzH (zzR _ _)⟩
 case round=>
  exact zz147
theorem zpQ (f:Nat) (t:Tm) (so:zzA) (c:Nat) (w:World) (hsl:SlAt w 9 (TmAt w f) so t.items) (hok:t.Ok) (hform:zj (f+1) t=true) (hcap:(zG (f+1) t:Int)<=1152921504606846976) (hrec:zhS f t so w) (hk9: ¬t.kind=9) (hk10: ¬t.kind=10):
  Calls Tryz.prog 149 #[.agg (zzt t so c)] w fun e w'=>e= .returned (.int .i64 (zt (f+1) t))/\Below w.heap.size w w':=by
 unfold zzt;have hwc:=zd9 (f+1) t hform;have HTV0:Hid (zt (f+1) t=zR t+zbB ((t.items.drop 0).map (zt f))):=zzH rfl
 have hown:0<=zR t/\zR t<=300+t.items.length:=by
  exact zz148
 have hil:t.items.length<=1152921504606846976:=by
  exact zz149
 have hownc:zR t<=1152921504606846976:=by
  exact zz150
 have HOWN:Hid (zR t=1):=zzH (by unfold zR;rw [if_neg hk9,if_neg hk10]);have t9:(t.kind==9)=false:=zzB.2 hk9;have t10:(t.kind==10)=false:=zzB.2 hk10;clear hk9 hk10;have HTV:Hid (zt (f+1) t=(1:Int)+zbB ((t.items.drop 0).map (zt f))):=zzH (by rw [HTV0.out,HOWN.out]);have HSL:=zzH hsl;have HREC0:=zzH hrec;rw [HOWN.out]at hown hownc;obtain⟨hown0,hown1⟩:=hown;clear hsl hrec hform hcap hwc HTV0;unfold zhS at HREC0;generalize zt (f+1) t=TV at *;go_in;go_upto_region 2 with fail;have hbx:=zbM w t so c;have hba:Below w.heap.size w (w.alloc (.cells (zzt t so c) 55)):=zzE _ _;generalize w.alloc (.cells (zzt t so c) 55)=Wa at *;have HS:Hid (SlAt Wa 9 (TmAt Wa f) so t.items):=zzH (SlAt.tms HSL.out hba);generalize hBz:w.heap.size=B at *;refine zzK3 hBz hba hbx fun HBZ HBA HBX=>?_;clear hBz hba;have hlb:=zc hbx;have c0:Wa.cell? ⟨B,0,none⟩=some (.int .i64 t.kind):=by rw [zzq2 _ _ _ _ _ _ hbx];rfl
 have c6:Wa.cell? ⟨B,6,none⟩=some (.slice so t.items.length c):=by rw [zzq2 _ _ _ _ _ _ hbx];rfl
 have c8:Wa.cell? ⟨B,8,none⟩=some (.int .i64 t.bits):=by rw [zzq2 _ _ _ _ _ _ hbx];rfl
 clear hbx;have HFIN:Hid (∀wx,Below Wa.heap.size Wa wx->Below B w wx):=zzH (fun wx hh=>HBA.out.trans (hh.mono (by have:=HBA.out.size;have:=HBZ.out;omega)));have HREC:Hid (zj5 f t so Wa TV):=zzH (HREC0.out Wa HBA.out);go_wp2_with fail;go_loopw [3,4] (fun nv iv wr=> ∃(k:Nat) (s:Int),k<=t.items.length/\iv= .int .i64 k/\nv= .int .i64 s/\Hid (TV=s+zbB ((t.items.drop k).map (zt f)))/\0<=s/\s<=1152921504606846976/\Hid (Below Wa.heap.size Wa wr)) (fun _ iv _=>t.items.length-(intOf iv).toNat)
 case atStart=>exact⟨0,(1:Int),zzZ _,rfl,by go_num,HTV,by omega,by omega,zzH (zzR _ _)⟩
 case round=>
  exact zz147
theorem zic (f:Nat) (IH: ∀f',f=f'+1->zk2 f'):zk2 f:=by
 intro t so c w hsl hok hform hcap
 have hall:t.items.all (zj f)=true:=by
  unfold zj at hform;rw [zzq6]at hform;exact hform.2
 have hwc:=zd9 (f+1) t hform
 have hrec:zhS f t so w:=by
  intro Wa hba k s wr hlt hb hs
  cases f with
  |zero=>rw [hsl.zero]at hlt;exact absurd hlt (zzC _)
  |succ f=>
   obtain⟨b2,off,ai,ci,hao,hb2,q0,q1,q2,q3,q4,q5,q6,q7,q8,hit,hok2⟩:=(SlAt.tms (SlAt.tms hsl hba) hb).tm hlt;have hf2:zj (f+1) t.items[k]=true:=zzp.1 hall _ (zzM hlt)
   have hc2:(zG (f+1) t.items[k]:Int)<=1152921504606846976:=by
    have h1:zG (f+1) t.items[k]<=zbR (t.items.map (zG (f+1))):=zjL _ _ (List.mem_map.2 ⟨_,zzM hlt,rfl⟩);have h2:zG (f+1+1) t=300+t.items.length+zbR (t.items.map (zG (f+1))):=rfl;rw [h2]at hcap;omega
   have hd:=zhj (f:=f+1) hlt;have hw:=zd9 (f+1) _ hf2;have hrest:=zgL (zd9 (f+1)) (t.items.drop (k+1)) (zjG hall (k+1));rw [hd]at hs;exact⟨b2,off,ai,ci,hao,hb2,q0,q1,q2,q3,q4,q5,q6,q7,q8,IH f rfl _ ai ci wr hit hok2 hf2 hc2,by rw [hs];omega,hw.1,by omega⟩
 by_cases h9:t.kind=9
 ·exact zlp f t so c w hsl hok hform hcap hrec h9
 by_cases h10:t.kind=10
 ·exact zmz f t so c w hsl hok hform hcap hrec h10
 exact zpQ f t so c w hsl hok hform hcap hrec h9 h10
theorem zpi (f:Nat):zk2 f:=by
 induction f with
 |zero=>exact zic 0 (fun f' h=>absurd h (by omega))
 |succ f ih=>exact zic (f+1) (fun f' h=>by
   have:f'=f:=by omega
   subst this;exact ih)
end Go.Proofs.YtijekmeocadkeaaGreatDoor
