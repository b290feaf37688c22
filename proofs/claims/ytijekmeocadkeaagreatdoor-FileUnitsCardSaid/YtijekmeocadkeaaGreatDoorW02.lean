import Derived.Test.YtijekmeocadkeaaGreatDoorW01
namespace Go.Proofs.YtijekmeocadkeaaGreatDoor
open Go.RowKit
set_option linter.unusedVariables false
set_option linter.unusedSimpArgs false
set_option maxRecDepth 100000
set_option maxHeartbeats 0
def zdD (n:Nat):Nat:=if n%2=1 then(n/2) ^^^ 3988292384 else n/2
def zb4:Nat->Nat->Nat
 |0,n=>n
 |k+1,n=>zb4 k (zdD n)
def upd (n:Nat) (b:UInt8):Nat:=zb4 8 (n ^^^ b.toNat)
def zcN (l:List UInt8):Nat:=l.foldl upd 4294967295
def crc (l:List UInt8):Nat:=zcN l ^^^ 4294967295
theorem zgt {a b:Nat} (ha:a<4294967296) (hb:b<4294967296):a ^^^ b<4294967296:=Nat.xor_lt_two_pow (n:=32) ha hb
theorem zss {n:Nat} (h:n<4294967296):zdD n<4294967296:=by
 unfold zdD;split
 ·exact zgt (by omega) (by decide)
 ·omega
theorem zhX: ∀(k:Nat) {n:Nat},n<4294967296->zb4 k n<4294967296
 |0,_,h=>h
 |k+1,_,h=>zhX k (zss h)
theorem zio: ∀(k n:Nat),zb4 (k+1) n=zdD (zb4 k n)
 |0,_=>rfl
 |k+1,n=>by rw [zb4,zio k];rfl
theorem zgr (b:UInt8):b.toNat<4294967296:=by have:=b.toNat_lt;omega
theorem zuf {n:Nat} (b:UInt8) (h:n<4294967296):upd n b<4294967296:=zhX 8 (zgt h (zgr b))
theorem zlS (l:List UInt8) (b:UInt8):zcN (l++ [b])=upd (zcN l) b:=by simp [zcN]
theorem zhH {l:List UInt8} {k:Nat} (h:k<l.length):zcN (l.take (k+1))=upd (zcN (l.take k)) l[k]:=by
 rw [List.take_succ_eq_append_getElem h,zlS]
theorem zqP (l:List UInt8): ∀n:Nat,n<4294967296->l.foldl upd n<4294967296:=by
 induction l with
 |nil=>exact fun n h=>h
 |cons b l ih=>exact fun n h=>ih _ (zuf b h)
theorem zfz (l:List UInt8):zcN l<4294967296:=zqP l _ (by decide)
theorem zij (l:List UInt8):crc l<4294967296:=zgt (zfz l) (by decide)
theorem zrL (a b:Nat):(a ^^^ b)/2=(a/2) ^^^ (b/2):=by
 have:=Nat.shiftRight_xor_distrib (a:=a) (b:=b) (i:=1)
 simpa [Nat.shiftRight_eq_div_pow] using this
theorem zsJ (a b:Nat):(a ^^^ b)%2=(a%2+b%2)%2:=by
 rcases Nat.mod_two_eq_zero_or_one a with ha|ha<;>rcases Nat.mod_two_eq_zero_or_one b with hb|hb<;>simp [Nat.xor_mod_two_eq_one,ha,hb,Nat.mod_two_eq_zero_iff_testBit_zero]
theorem zrx (a b:Nat):zdD (a ^^^ b)=zdD a ^^^ zdD b:=by
 have h1:=zrL a b;have h2:=zsJ a b;unfold zdD;rw [h1,h2];rcases Nat.mod_two_eq_zero_or_one a with ha|ha<;>rcases Nat.mod_two_eq_zero_or_one b with hb|hb<;>simp [ha,hb]
 ·rw [Nat.xor_assoc]
 ·rw [Nat.xor_assoc,Nat.xor_comm (b/2),Nat.xor_assoc]
 ·rw [Nat.xor_assoc,<-Nat.xor_assoc 3988292384 (b/2),Nat.xor_comm 3988292384 (b/2),Nat.xor_assoc (b/2),Nat.xor_self,Nat.xor_zero]
theorem zjx: ∀(k a b:Nat),zb4 k (a ^^^ b)=zb4 k a ^^^ zb4 k b
 |0,_,_=>rfl
 |k+1,a,b=>by rw [zb4,zrx,zjx k];rfl
theorem zjA: ∀(j k n:Nat),zb4 (j+k) n=zb4 k (zb4 j n)
 |0,k,n=>by rw [Nat.zero_add];rfl
 |j+1,k,n=>by rw [show j+1+k=j+k+1 by omega,zb4,zjA j k];rfl
def tabL:List Nat:=[0,498536548,997073096,651767980,1994146192,1802195444,1303535960,1342533948,3988292384,4027552580,3604390888,3412177804,2607071920,2262029012,2685067896,3183342108]
def tab (k:Nat):Nat:=tabL.getD k 0
theorem zs6 (n:Nat):(16*(n/16)) ^^^ (n%16)=n:=by
 have h1:=Nat.xor_div_two_pow (a:=16*(n/16)) (b:=n%16) (n:=4);have h2:=Nat.xor_mod_two_pow (a:=16*(n/16)) (b:=n%16) (n:=4);have e1:16*(n/16)/2^4=n/16:=by omega
 have e2:n%16/2^4=0:=by omega
 have e3:16*(n/16)%2^4=0:=by omega
 have e4:n%16%2^4=n%16:=by omega
 rw [e1,e2,Nat.xor_zero]at h1;rw [e3,e4,Nat.zero_xor]at h2;omega
theorem zgb (m:Nat):zdD (2*m)=m:=by unfold zdD;rw [if_neg (by omega)];omega
theorem znB (m:Nat):zb4 4 (16*m)=m:=by
 show zdD (zdD (zdD (zdD (16*m))))=m;rw [show 16*m=2*(2*(2*(2*m)))by omega,zgb,zgb,zgb,zgb]
theorem ztN: ∀r,r<16->zb4 4 r=tab r:=by decide
theorem znW (n:Nat):zb4 4 n=(n/16) ^^^ tab (n%16):=by
 have h:zb4 4 n=zb4 4 ((16*(n/16)) ^^^ (n%16)):=by rw [zs6]
 rw [h,zjx,znB,ztN _ (Nat.mod_lt _ (by decide))]
theorem zpO: ∀r,r<16->tab r<4294967296:=by decide
theorem ztB (n:Nat) (b:UInt8):upd n b=zb4 4 (zb4 4 (n ^^^ b.toNat)):=zjA 4 4 _
theorem zcn (a b:Nat) (ha:a<4294967296) (hb:b<4294967296):bits .xor .u32 (a:Int) (b:Int)=((a ^^^ b:Nat):Int):=by
 have hx:a ^^^ b<2^32:=Nat.xor_lt_two_pow (by omega) (by omega)
 have h1:(BitVec.ofInt 32 (a:Int)).toNat=a:=by
  exact zz2
 have h2:(BitVec.ofInt 32 (b:Int)).toNat=b:=by
  exact zz2
 show IntKind.u32.wrap ((BitVec.ofInt 32 (a:Int) ^^^ BitVec.ofInt 32 (b:Int)).toNat:Int)=_;rw [BitVec.toNat_xor,h1,h2,IntKind.wrap_u32];omega
theorem ziD (x:Nat) (hx:x<4294967296):bits .and .u32 (x:Int) 15=((x%16:Nat):Int):=by
 have h1:(BitVec.ofInt 32 (x:Int)).toNat=x:=by
  exact zz2
 show IntKind.u32.wrap ((BitVec.ofInt 32 (x:Int)&&&BitVec.ofInt 32 15).toNat:Int)=_;have h2:(BitVec.ofInt 32 15).toNat=15:=by decide
 rw [BitVec.toNat_and,h1,h2,show(15:Nat)=2^4-1 by rfl,Nat.and_two_pow_sub_one_eq_mod,IntKind.wrap_u32];omega
theorem zqw (c:Nat) (hc:c<4294967296):bits .xor .u32 IntKind.u32.max (c:Int)=((c ^^^ 4294967295:Nat):Int):=by
 rw [Nat.xor_comm];exact zcn 4294967295 c (by decide) hc
def ze (t:Tm):Tm:=
 if t.kind=1 then .mk t.kind 0 t.gen t.name t.func t.arity t.items t.bytes t.bits else if t.kind=2 then .mk t.kind t.int t.gen ⟨#[]⟩ t.func t.arity t.items t.bytes t.bits else if t.kind=3 then .mk t.kind 0 0 ⟨#[]⟩ t.func t.arity t.items t.bytes t.bits else if t.kind=4 then .mk t.kind 0 0 ⟨#[]⟩ t.func 0 [] t.bytes t.bits else if t.kind=5 then .mk t.kind t.int t.gen ⟨#[]⟩ ⟨#[]⟩ 0 t.items t.bytes t.bits else if t.kind=6 then .mk t.kind 0 0 ⟨#[]⟩ t.func t.arity t.items t.bytes t.bits else if t.kind=7 then .mk t.kind t.int t.gen t.name t.func t.arity [] t.bytes t.bits else if t.kind=8 then .mk t.kind t.int t.gen t.name t.func t.arity t.items t.bytes t.bits else if t.kind=9 then .mk t.kind t.int t.gen t.name t.func t.arity [] t.bytes t.bits else if t.kind=10 then .mk t.kind t.int t.gen t.name t.func t.arity t.items ⟨#[]⟩ 0 else t
def ze0:Tm:=.mk 0 0 0 ⟨#[]⟩ ⟨#[]⟩ 0 [] ⟨#[]⟩ 0
def zf9 (t:Tm):Tm:=.mk 0 (ze t).int (ze t).gen (ze t).name (ze t).func (ze t).arity (ze t).items (ze t).bytes (ze t).bits
theorem zr1 (s:ByteArray):(s.toList==(ByteArray.mk #[]).toList)=zS s:=by
 unfold zS;rw [zzq14,zzq14];rw [Bool.eq_iff_iff,beq_iff_eq,zzq7];constructor
 ·intro h
  have h2:s.data.toList.length=0:=congrArg List.length h;rw [Array.length_toList]at h2;exact h2
 ·intro h
  have:s.data.size=0:=h;have:s.data=#[]:=Array.eq_empty_of_size_eq_zero this;rw [this]
theorem zeT (n:Int):(n==0)=zI n:=by unfold zI;rw [Bool.eq_iff_iff,beq_iff_eq,zzq7]
theorem zuv (rec:Tm->Tm->Bool) (l:List Tm):zcv rec l []=zL l:=by cases l<;>rfl
theorem ztS:zS (ByteArray.mk #[])=true:=rfl
theorem zug:zI 0=true:=rfl
theorem ztP:zL []=true:=rfl
theorem zjo (f:Nat) (a:Tm):zce (f+1) a ze0=(zI a.kind&&(zI a.int&&(zI a.gen&&(zS a.name&&(zS a.func&&(zI a.arity&&(zS a.bytes&&zI a.bits))))))&&zL a.items):=by
 unfold zce zj4 ze0;simp only [Tm.kind,Tm.int,Tm.gen,Tm.name,Tm.func,Tm.arity,Tm.items,Tm.bytes,Tm.bits,zr1,zeT,zuv]
theorem zeD {t:Tm} (h: ¬(t.kind=1\/t.kind=2\/t.kind=3\/t.kind=4\/t.kind=5\/t.kind=6\/t.kind=7\/t.kind=8\/t.kind=9\/t.kind=10)):okK t=false:=by
 unfold okK;simp only [not_or]at h;obtain⟨h1,h2,h3,h4,h5,h6,h7,h8,h9,h10⟩:=h;rw [if_neg h1,if_neg h2,if_neg (by omega),if_neg h4,if_neg h5,if_neg h7,if_neg h8,if_neg h9,if_neg h10]
theorem zn0 (n m:Nat):decide (n<=m)=decide ((n:Int)<=(m:Int)):=by rw [Bool.eq_iff_iff,zzq7,zzq7];omega
theorem zpu (f:Nat) (t:Tm):(okK t&&zce (f+1) (zf9 t) ze0)=zcm t:=by
 rw [zjo];obtain⟨tk,ti,tg,tn,tf,ta,tl,ty,tz⟩:=t;by_cases h:tk=1\/tk=2\/tk=3\/tk=4\/tk=5\/tk=6\/tk=7\/tk=8\/tk=9\/tk=10
 ·unfold zf9 zcm
  rcases h with rfl|rfl|rfl|rfl|rfl|rfl|rfl|rfl|rfl|rfl
  all_goals
   generalize okK (Tm.mk _ ti tg tn tf ta tl ty tz)=q;simp only [ze,zcL,Tm.kind,Tm.int,Tm.gen,Tm.name,Tm.func,Tm.arity,Tm.items,Tm.bytes,Tm.bits];simp [ztS,zug,ztP]
   try(cases q<;>cases zI ti<;>cases zI tg<;>cases zS tn<;>cases zS tf<;>cases zI ta<;>cases zL tl<;>cases zS ty<;>cases zI tz<;>rfl)
 ·have:okK (Tm.mk tk ti tg tn tf ta tl ty tz)=false:=zeD h
  unfold zcm;rw [this,Bool.false_and,Bool.false_and]
def zcE (w0 w:World) (f:Nat) (t:Tm) (e:Ending) (w':World):Prop:= ∃so' c',e= .returned (.tuple #[.agg #[.int .i64 (ze t).kind,.int .i64 (ze t).int,.int .i64 (ze t).gen,.string (ze t).name,.string (ze t).func,.int .i64 (ze t).arity,.slice so' (ze t).items.length c',.string (ze t).bytes,.int .i64 (ze t).bits],.bool (okK t)]) /\
 SlAt w0 9 (TmAt w0 f) so' (ze t).items/\Below w.heap.size w w'
section
variable (t:Tm) (so:Option Addr) (c f:Nat) (w0 w:World)
theorem zsc (hs:SlAt w0 9 (TmAt w0 f) so t.items) (hk:t.kind=0):Calls Tryz.prog 198 #[.agg #[.int .i64 t.kind,.int .i64 t.int,.int .i64 t.gen,.string t.name,.string t.func,.int .i64 t.arity,.slice so t.items.length c,.string t.bytes,.int .i64 t.bits]] w (zcE w0 w f t):=by
 have e1:ze t=t:=by unfold ze;simp [hk]
 have e2:okK t=false:=by unfold okK;simp [hk]
 refine(znS t.kind t.int t.gen t.name t.func t.arity so t.items.length c t.bytes t.bits w).mono ?_;exact zz35
theorem zsZ (hs:SlAt w0 9 (TmAt w0 f) so t.items) (hk:t.kind=1):Calls Tryz.prog 199 #[.agg #[.int .i64 t.kind,.int .i64 t.int,.int .i64 t.gen,.string t.name,.string t.func,.int .i64 t.arity,.slice so t.items.length c,.string t.bytes,.int .i64 t.bits]] w (zcE w0 w f t):=by
 have e1:ze t= .mk t.kind 0 t.gen t.name t.func t.arity t.items t.bytes t.bits:=by unfold ze;simp [hk]
 have e2:okK t=true:=by unfold okK;simp [hk]
 refine(zp9 t.kind t.int t.gen t.name t.func t.arity so t.items.length c t.bytes t.bits w).mono ?_;exact zz35
theorem ztt (hs:SlAt w0 9 (TmAt w0 f) so t.items) (hk:t.kind=2):Calls Tryz.prog 200 #[.agg #[.int .i64 t.kind,.int .i64 t.int,.int .i64 t.gen,.string t.name,.string t.func,.int .i64 t.arity,.slice so t.items.length c,.string t.bytes,.int .i64 t.bits]] w (zcE w0 w f t):=by
 have e1:ze t= .mk t.kind t.int t.gen ⟨#[]⟩ t.func t.arity t.items t.bytes t.bits:=by unfold ze;simp [hk]
 have e2:okK t=zw t.name:=by unfold okK;simp [hk]
 refine(zoh t.kind t.int t.gen t.name t.func t.arity so t.items.length c t.bytes t.bits w).mono ?_;exact zz35
theorem zsd (hs:SlAt w0 9 (TmAt w0 f) so t.items) (hk:t.kind=3):Calls Tryz.prog 196 #[.agg #[.int .i64 t.kind,.int .i64 t.int,.int .i64 t.gen,.string t.name,.string t.func,.int .i64 t.arity,.slice so t.items.length c,.string t.bytes,.int .i64 t.bits]] w (zcE w0 w f t):=by
 exact zz36
theorem zsU (hs:SlAt w0 9 (TmAt w0 f) so t.items) (hk:t.kind=4):Calls Tryz.prog 201 #[.agg #[.int .i64 t.kind,.int .i64 t.int,.int .i64 t.gen,.string t.name,.string t.func,.int .i64 t.arity,.slice so t.items.length c,.string t.bytes,.int .i64 t.bits]] w (zcE w0 w f t):=by
 have e1:ze t= .mk t.kind 0 0 ⟨#[]⟩ t.func 0 [] t.bytes t.bits:=by unfold ze;simp [hk]
 have e2:okK t=(wi t.int 0 999&&wi t.gen 1 2147483647&&zw t.name&&wi t.arity 0 16&&decide ((t.items.length:Int)<=(200:Nat))):=by rw [<-zn0];unfold okK;simp [hk]
 refine(zkj t.kind t.int t.gen t.name t.func t.arity so t.items.length c t.bytes t.bits w).mono ?_;exact zz37
theorem ztl (hs:SlAt w0 9 (TmAt w0 f) so t.items) (hk:t.kind=5):Calls Tryz.prog 202 #[.agg #[.int .i64 t.kind,.int .i64 t.int,.int .i64 t.gen,.string t.name,.string t.func,.int .i64 t.arity,.slice so t.items.length c,.string t.bytes,.int .i64 t.bits]] w (zcE w0 w f t):=by
 have e1:ze t= .mk t.kind t.int t.gen ⟨#[]⟩ ⟨#[]⟩ 0 t.items t.bytes t.bits:=by unfold ze;simp [hk]
 have e2:okK t=(zw t.name&&zw t.func&&wi t.arity 0 16):=by unfold okK;simp [hk]
 refine(zlL t.kind t.int t.gen t.name t.func t.arity so t.items.length c t.bytes t.bits w).mono ?_;exact zz35
theorem zsF (hs:SlAt w0 9 (TmAt w0 f) so t.items) (hk:t.kind=6):Calls Tryz.prog 196 #[.agg #[.int .i64 t.kind,.int .i64 t.int,.int .i64 t.gen,.string t.name,.string t.func,.int .i64 t.arity,.slice so t.items.length c,.string t.bytes,.int .i64 t.bits]] w (zcE w0 w f t):=by
 exact zz36
theorem zr9 (hs:SlAt w0 9 (TmAt w0 f) so t.items) (hk:t.kind=7):Calls Tryz.prog 203 #[.agg #[.int .i64 t.kind,.int .i64 t.int,.int .i64 t.gen,.string t.name,.string t.func,.int .i64 t.arity,.slice so t.items.length c,.string t.bytes,.int .i64 t.bits]] w (zcE w0 w f t):=by
 have e1:ze t= .mk t.kind t.int t.gen t.name t.func t.arity [] t.bytes t.bits:=by unfold ze;simp [hk]
 have e2:okK t=decide ((t.items.length:Int)<=(255:Nat)):=by rw [<-zn0];unfold okK;simp [hk]
 refine(znp t.kind t.int t.gen t.name t.func t.arity so t.items.length c t.bytes t.bits w).mono ?_;exact zz37
theorem ztc (hs:SlAt w0 9 (TmAt w0 f) so t.items) (hk:t.kind=8):Calls Tryz.prog 204 #[.agg #[.int .i64 t.kind,.int .i64 t.int,.int .i64 t.gen,.string t.name,.string t.func,.int .i64 t.arity,.slice so t.items.length c,.string t.bytes,.int .i64 t.bits]] w (zcE w0 w f t):=by
 have e1:ze t= .mk t.kind t.int t.gen t.name t.func t.arity t.items t.bytes t.bits:=by unfold ze;simp [hk]
 have e2:okK t=true:=by unfold okK;simp [hk]
 refine(zri t.kind t.int t.gen t.name t.func t.arity so t.items.length c t.bytes t.bits w).mono ?_;exact zz35
theorem zto (hs:SlAt w0 9 (TmAt w0 f) so t.items) (hb:Below w0.heap.size w0 w) (hl:t.items.length<=maxLen) (hk:t.kind=9):Calls Tryz.prog 205 #[.agg #[.int .i64 t.kind,.int .i64 t.int,.int .i64 t.gen,.string t.name,.string t.func,.int .i64 t.arity,.slice so t.items.length c,.string t.bytes,.int .i64 t.bits]] w (zcE w0 w f t):=by
 have e1:ze t= .mk t.kind t.int t.gen t.name t.func t.arity [] t.bytes t.bits:=by unfold ze;simp [hk]
 have e2:okK t=(decide (2<=t.items.length)&&decide (zgT t.items≠9)):=by unfold okK;simp [hk]
 by_cases h2:t.items.length<2
 ·refine(znK t.kind t.int t.gen t.name t.func t.arity so t.items.length c t.bytes t.bits w h2).mono ?_
  rintro e w' ⟨rfl,hb'⟩;refine⟨none,0,?_,?_,hb'⟩
  ·rw [e1,e2,decide_eq_false (by omega)];rfl
  ·rw [e1];exact SlAt.nil w0 9 _ none
 ·obtain⟨m,hm⟩: ∃m,t.items.length=m+2:=⟨t.items.length-2,by omega⟩
  have hm1:m+1<t.items.length:=by omega
  have hbf:=hs.row hm1;obtain⟨b,off,rfl,hbl,hrow⟩:=hbf;obtain⟨cs,_,hcs,hR⟩:=hrow (m+1) hm1
  have hcell:w.cell? ⟨b,off+(m+1)*9,none⟩=some (.int .i64 (t.items[m+1]).kind):=by
   refine(hb.cell (p:=⟨b,off+(m+1)*9,none⟩) hbl).trans ?_;rw [show off+(m+1)*9=off+(m+1)*9+0 by rfl,hcs 0 (by decide)]
   cases f with
   |zero=>exact hR.elim
   |succ f=>obtain⟨⟨ai,ci,rfl,_⟩,_⟩:=hR;rfl
  have hk9:zgT t.items=(t.items[m+1]).kind:=by
   unfold zgT;rw [List.getLast?_eq_getElem?,hm,show m+2-1=m+1 by rfl,zzq11 hm1]
  unfold maxLen at hl;have h:=zm5 t.kind t.int t.gen t.name t.func t.arity c t.bytes t.bits w b off m (t.items[m+1]).kind (by omega) (zzW hbl hb.size) hcell;rw [<-hm]at h;refine h.mono ?_;rintro e w' ⟨rfl,hb'⟩;refine⟨none,0,?_,?_,hb'⟩
  ·rw [e1, e2, decide_eq_true (by omega), hk9, zzq15, show (t.items[m + 1].kind != 9) = decide (t.items[m + 1].kind ≠ 9) by (rw [Bool.eq_iff_iff, bne_iff_ne, zzq7])]; rfl
  ·rw [e1];exact SlAt.nil w0 9 _ none
theorem zqM (hs:SlAt w0 9 (TmAt w0 f) so t.items) (hy:t.bytes.size<=maxLen) (hz:I64 t.bits) (hk:t.kind=10):Calls Tryz.prog 206 #[.agg #[.int .i64 t.kind,.int .i64 t.int,.int .i64 t.gen,.string t.name,.string t.func,.int .i64 t.arity,.slice so t.items.length c,.string t.bytes,.int .i64 t.bits]] w (zcE w0 w f t):=by
 have e1:ze t= .mk t.kind t.int t.gen t.name t.func t.arity t.items ⟨#[]⟩ 0:=by unfold ze;simp [hk]
 have e2:okK t=zcf t.bytes t.bits:=by unfold okK zgy;simp [hk]
 refine(zoD t.kind t.int t.gen t.name t.func t.arity so t.items.length c t.bytes t.bits w hy hz).mono ?_;exact zz35
end
def MeasAt (M:Nat) (s:Int) (w:World):Prop:=w.heap[M]?=some (.cells #[.func (.func 198) #[] #[],.func (.func 199) #[] #[],.func (.func 200) #[] #[],.func (.func 196) #[] #[],.func (.func 201) #[] #[],.func (.func 202) #[] #[],.func (.func 196) #[] #[],.func (.func 203) #[] #[],.func (.func 204) #[] #[],.func (.func 205) #[] #[],.func (.func 206) #[] #[],.int .i64 s] 226 (0,0))
theorem zY {W w:World} (h:Below W.heap.size W w):W.heap.size<=w.heap.size/\ ∀b o,b<W.heap.size->w.cell? ⟨b,o,none⟩=W.cell? ⟨b,o,none⟩:=⟨h.size,fun b o hb=>h.cell (p:=⟨b,o,none⟩) hb⟩
theorem zbL {W w:World} {o:Obj} (h:W.heap.size<=w.heap.size/\ ∀b o,b<W.heap.size->w.cell? ⟨b,o,none⟩=W.cell? ⟨b,o,none⟩):W.heap.size<=(w.alloc o).heap.size/\ ∀b q,b<W.heap.size->(w.alloc o).cell? ⟨b,q,none⟩=W.cell? ⟨b,q,none⟩:=
 ⟨by have:=h.1;simp;omega,fun b q hb=>(((zzR w.heap.size w).alloc (zzL _) o).cell (p:=⟨b,q,none⟩) (zzW hb h.1)).trans (h.2 b q hb)⟩
theorem zeX {W w:World} {q:Nat} {v:Value} (h:W.heap.size<=w.heap.size/\ ∀b o,b<W.heap.size->w.cell? ⟨b,o,none⟩=W.cell? ⟨b,o,none⟩):W.heap.size<=(w.setCell ⟨W.heap.size,q,none⟩ v).heap.size/\ ∀b o,b<W.heap.size->(w.setCell ⟨W.heap.size,q,none⟩ v).cell? ⟨b,o,none⟩=W.cell? ⟨b,o,none⟩:=
 ⟨by simpa [World.setCell] using h.1,fun b o hb=>(World.cell?_of_block (Below.heap_setCell _ _ _ _ (Nat.ne_of_lt hb))).trans (h.2 b o hb)⟩
theorem zdT {W w:World} {v0 v1 v2 v3 v4 v5 v6 v7 v8:Value} (h:W.heap.size<=w.heap.size/\ ∀b o,b<W.heap.size->w.cell? ⟨b,o,none⟩=W.cell? ⟨b,o,none⟩):
  W.heap.size<=(((((((((w.setCell ⟨W.heap.size,0,none⟩ v0).setCell ⟨W.heap.size,1,none⟩ v1).setCell ⟨W.heap.size,2,none⟩ v2).setCell ⟨W.heap.size,3,none⟩ v3).setCell ⟨W.heap.size,4,none⟩ v4).setCell ⟨W.heap.size,5,none⟩ v5).setCell ⟨W.heap.size,6,none⟩ v6).setCell ⟨W.heap.size,7,none⟩ v7).setCell ⟨W.heap.size,8,none⟩ v8).heap.size /\
   ∀b o,b<W.heap.size->(((((((((w.setCell ⟨W.heap.size,0,none⟩ v0).setCell ⟨W.heap.size,1,none⟩ v1).setCell ⟨W.heap.size,2,none⟩ v2).setCell ⟨W.heap.size,3,none⟩ v3).setCell ⟨W.heap.size,4,none⟩ v4).setCell ⟨W.heap.size,5,none⟩ v5).setCell ⟨W.heap.size,6,none⟩ v6).setCell ⟨W.heap.size,7,none⟩ v7).setCell ⟨W.heap.size,8,none⟩ v8).cell? ⟨b,o,none⟩=W.cell? ⟨b,o,none⟩:=
 zeX (zeX (zeX (zeX (zeX (zeX (zeX (zeX (zeX h))))))))
def zfC (M:Nat) (s:Int) (cap:Nat) (ok:Bool) (add:Int) (w w':World):Prop:=w.grownBy w' (some M)/\ ∃s':Int,s<=s'/\s'<=s+cap/\MeasAt M s' w'/\(ok=true->s'=s+add)
def OfP (f:Nat):Prop:= ∀(t:Tm) (so:Option Addr) (c M:Nat) (s:Int) (w0 w:World),SlAt w0 9 (TmAt w0 f) so t.items->t.Ok->Below w0.heap.size w0 w->w0.heap.size<=M->MeasAt M s w->0<=s->s+zG (f+1) t<=1152921504606846976 ->
 Calls Tryz.prog 162 #[.pointer (some ⟨M,0,none⟩),.agg #[.int .i64 t.kind,.int .i64 t.int,.int .i64 t.gen,.string t.name,.string t.func,.int .i64 t.arity,.slice so t.items.length c,.string t.bytes,.int .i64 t.bits]] w fun e w'=>e= .returned (.bool (zj (f+1) t))/\zfC M s (zG (f+1) t) (zj (f+1) t) (zt (f+1) t) w w'
def CfP (f:Nat):Prop:= ∀(l:List Tm) (ao:Option Addr) (c M mb:Nat) (s:Int) (w0 w:World),SlAt w0 9 (TmAt w0 f) ao l->l.length<=maxLen->Below w0.heap.size w0 w->w0.heap.size<=M->MeasAt M s w->w.heap[mb]?=some (.cells #[.pointer (some ⟨M,0,none⟩)] 221 (0,0))->mb≠M->0<=s->s+zbR (l.map (zG f))<=1152921504606846976 ->
 Calls Tryz.prog 208 #[.slice ao l.length c,.func (.func 209) #[] #[.pointer (some ⟨mb,0,none⟩)]] w fun e w'=>e= .returned (.bool (!(l.all (zj f))))/\zfC M s (zbR (l.map (zG f))) (l.all (zj f)) (zbB (l.map (zt f))) w w'
theorem zc1 (w:World) (r o:Nat) (v:Value):w.grownBy (w.setCell ⟨r,o,none⟩ v) (some r):=
 ⟨rfl,rfl,rfl,by simp [World.setCell],fun k _ hk=>Below.heap_setCell _ _ _ _ (fun e=>hk (by rw [e]))⟩
theorem zhR {M:Nat} {s s':Int} {w:World} (h:MeasAt M s w):MeasAt M s' (w.setCell ⟨M,11,none⟩ (.int .i64 s')):=zzS _ _ 11 _ _ (.int .i64 s') h
theorem MeasAt.below {M:Nat} {s:Int} {w w':World} (h:MeasAt M s w) (hb:Below w.heap.size w w'):MeasAt M s w':=(hb.block M (zc h)).trans h
theorem MeasAt.cell {M:Nat} {s:Int} {w:World} (h:MeasAt M s w):w.cell? ⟨M,11,none⟩=some (.int .i64 s)/\w.frozen? ⟨M,11,none⟩=false:=⟨zzq2 _ _ 11 _ _ _ h,zzq17 _ _ 11 _ _ h⟩
theorem zdS {w0 a b:World} {M:Nat} (h:Below w0.heap.size w0 a) (hg:a.grownBy b (some M)) (hM:w0.heap.size<=M):Below w0.heap.size w0 b:=h.grown hg h.size (fun k hk=>by cases hk;exact hM)
theorem zcp (t:Tm):(ze t).items.length<=t.items.length:=by
 unfold ze
 repeat' split
 all_goals first|exact zzL _|exact zzZ _
theorem zmJ {t:Tm} (h:zcm t=true) (hk:t.kind=10):0<=t.bits/\t.bits<=16384:=by
 unfold zcm okK zgy zcf wi at h;simp only [hk]at h;simp at h;omega
theorem zow {t:Tm} (h:zcm t=true) (hk:t.kind=9):2<=t.items.length:=by
 unfold zcm okK at h;simp only [hk]at h;simp at h;omega
theorem zpv {t:Tm} (h: ¬(0<=t.kind/\t.kind<11)):zcm t=false:=by
 unfold zcm;rw [zeD (by omega)];rfl
theorem ztV {f:Nat} (t:Tm) (so:zzA) (c M:Nat) (s:Int) (w0 w:World) (hm:MeasAt M s w) (hk: ¬(0<=t.kind/\t.kind<11)):
  Calls Tryz.prog 162 #[.pointer (some ⟨M,0,none⟩),.agg (zzt t so c)] w fun e w'=>e= .returned (.bool (zj (f+1) t))/\zfC M s (zG (f+1) t) (zj (f+1) t) (zt (f+1) t) w w':=by
 unfold zzt;have E:Hid (zj (f+1) t=false):=zzH (by unfold zj;rw [zpv hk];rfl);have H2:=zzH (zU w (.cells #[.pointer (some ⟨M,0,none⟩)] 221) (.cells #[.int .i64 t.kind,.int .i64 t.int,.int .i64 t.gen,.string t.name,.string t.func,.int .i64 t.arity,.slice so t.items.length c,.string t.bytes,.int .i64 t.bits] 55));by_cases h0:t.kind<0
 ·exact zz38
 ·have h1:11<=t.kind:=by omega
  have h0':0<=t.kind:=by omega
  clear hk h0;exact zz38
theorem zuu {f:Nat} (HC:Hid (CfP f)) (t:Tm) (so:zzA) (c M:Nat) (s:Int) (w0 w:World) (ht:SlAt w0 9 (TmAt w0 f) so t.items) (hok:t.Ok) (hb:Below w0.heap.size w0 w) (hM:w0.heap.size<=M) (hm:MeasAt M s w) (hs0:0<=s) (hs1:s+zG (f+1) t<=1152921504606846976) (hk0:0<=t.kind) (hk1:t.kind<11):
  Calls Tryz.prog 162 #[.pointer (some ⟨M,0,none⟩),.agg (zzt t so c)] w fun e w'=>e= .returned (.bool (zj (f+1) t))/\zfC M s (zG (f+1) t) (zj (f+1) t) (zt (f+1) t) w w':=by
 unfold zzt;have hMl:=zc hm;refine zzK4 ht hok hb hm fun HT HOK HB HM=>?_;clear ht hok hb hm;generalize hkt:t.kind=tk at *;have HKT:=zzH hkt;clear hkt;go_in;go_upto_region 3 with fail;have r0:=zfD w (.cells #[.pointer (some ⟨M,0,none⟩)] 221) (.cells #[.int .i64 tk,.int .i64 t.int,.int .i64 t.gen,.string t.name,.string t.func,.int .i64 t.arity,.slice so t.items.length c,.string t.bytes,.int .i64 t.bits] 55);have r1:=zeR w (.cells #[.pointer (some ⟨M,0,none⟩)] 221) (.cells #[.int .i64 tk,.int .i64 t.int,.int .i64 t.gen,.string t.name,.string t.func,.int .i64 t.arity,.slice so t.items.length c,.string t.bytes,.int .i64 t.bits] 55);have hB2:=zU w (.cells #[.pointer (some ⟨M,0,none⟩)] 221) (.cells #[.int .i64 tk,.int .i64 t.int,.int .i64 t.gen,.string t.name,.string t.func,.int .i64 t.arity,.slice so t.items.length c,.string t.bytes,.int .i64 t.bits] 55);have HM2:=zzH (HM.out.below hB2);have hMl2:M<((w.alloc (.cells #[.pointer (some ⟨M,0,none⟩)] 221)).alloc (.cells #[.int .i64 tk,.int .i64 t.int,.int .i64 t.gen,.string t.name,.string t.func,.int .i64 t.arity,.slice so t.items.length c,.string t.bytes,.int .i64 t.bits] 55)).heap.size:=zzW hMl hB2.size;generalize(w.alloc (.cells #[.pointer (some ⟨M,0,none⟩)] 221)).alloc (.cells #[.int .i64 tk,.int .i64 t.int,.int .i64 t.gen,.string t.name,.string t.func,.int .i64 t.arity,.slice so t.items.length c,.string t.bytes,.int .i64 t.bits] 55)=W2 at *;have HB2:=zzH hB2;have hBM:M<w.heap.size:=hMl;have HMB:Hid (w.heap.size≠M):=zzH (Nat.ne_of_gt hMl);have HWB:Hid (w0.heap.size<=w.heap.size):=zzH HB.out.size;have HML:=zzH hBM;obtain⟨q0,q1,q2,q3,q4,q5,q6,q7,q8,z1⟩:=zg r1;have b0:W2.cell? ⟨w.heap.size,0,none⟩=some (.pointer (some ⟨M,0,none⟩)):=by rw [zzq2 _ _ _ _ _ _ r0];rfl
 have hl0:=zc r0;have hl1:=zc r1;have R0:=zzH r0;have R1:=zzH r1;clear z1 r0 r1 hB2 hMl hBM;generalize hBe:w.heap.size=B at *;have HBW2:Hid (Below w.heap.size w W2):=zzH (by rw [hBe];exact HB2.out);have HBE:=zzH hBe;clear hBe;go_cut [5,6] (fun s5 s6 wx=> ∃(L:Nat) (so':zzA) (c':Nat),s5= .pointer (some ⟨L,0,none⟩)/\s6= .bool (okK t)/\W2.heap.size<=L/\SlAt w0 9 (TmAt w0 f) so' (ze t).items/\wx.heap[L]?=some (.cells #[.int .i64 (ze t).kind,.int .i64 (ze t).int,.int .i64 (ze t).gen,.string (ze t).name,.string (ze t).func,.int .i64 (ze t).arity,.slice so' (ze t).items.length c',.string (ze t).bytes,.int .i64 (ze t).bits] 55 (0,0))/\Below W2.heap.size W2 wx)
 case first=>
  have HDR:=zzH ((zzR W2.heap.size W2).drew);have HDA:=zzH (((zzR W2.heap.size W2).alloc (zzL _) (.cells #[.int .i64 0,.int .i64 0,.int .i64 0,.string ⟨#[]⟩,.string ⟨#[]⟩,.int .i64 0,.slice none 0 0,.string ⟨#[]⟩,.int .i64 0] 55)).drew);have SK0:=zzH (zY HDR.out);have SK1:=zzH (zY HDA.out);have HAN:Hid ((W2.alloc (.cells #[.int .i64 0,.int .i64 0,.int .i64 0,.string ⟨#[]⟩,.string ⟨#[]⟩,.int .i64 0,.slice none 0 0,.string ⟨#[]⟩,.int .i64 0] 55)).drew.heap[W2.heap.size]?=some (.cells zC 55 (0,0))):=zzH (zzF W2 _)
  have hkk:tk=0\/tk=1\/tk=2\/tk=3\/tk=4\/tk=5\/tk=6\/tk=7\/tk=8\/tk=9\/tk=10:=by omega
  clear hk0 hk1 hs0 hs1;rcases hkk with rfl|rfl|rfl|rfl|rfl|rfl|rfl|rfl|rfl|rfl|rfl
  ·have hQ: ∀wx,Calls Tryz.prog 198 #[.agg #[.int .i64 0,.int .i64 t.int,.int .i64 t.gen,.string t.name,.string t.func,.int .i64 t.arity,.slice so t.items.length c,.string t.bytes,.int .i64 t.bits]] wx (zcE w0 wx f t):=fun wx=>by have h:=zsc t so c f w0 wx HT.out HKT.out;rwa [HKT.out]at h
   have n0:W2.cell? ⟨M,0,none⟩=some (.func (.func 198) #[] #[]):=zzq2 _ _ 0 _ _ _ HM2.out
   first|go_region_held3 (fun w'=>W2.heap.size<=w'.heap.size/\ ∀b o,b<W2.heap.size->w'.cell? ⟨b,o,none⟩=W2.cell? ⟨b,o,none⟩) (first|with_reducible exact HK5.out|with_reducible exact SK0.out|with_reducible exact zbL SK0.out|with_reducible exact SK1.out|with_reducible exact zbL HK5.out|with_reducible exact zdT HK5.out)
    ((go_at_call 198;refine(hQ _).mono ?_;rintro e w5 ⟨so',c',rfl,hs',hb5⟩;first|(have hbb:Below W2.heap.size W2 w5:=(by with_reducible exact zd HDR.out hb5);have HK5:=zzH (zY hbb))|(have hbb:Below W2.heap.size W2 w5:=(by with_reducible exact zd HDA.out hb5);have xl:w5.heap[W2.heap.size]?=some (.cells zC 55 (0,0)):=(hb5.block W2.heap.size (zc HAN.out)).trans HAN.out;have XL:=zzH xl;obtain⟨l0,l1,l2,l3,l4,l5,l6,l7,l8,lz⟩:=zg xl;clear xl;have HK5:=zzH (zY hbb))))|fail
   ·exact zz42
   ·exact zz41
  ·have hQ: ∀wx,Calls Tryz.prog 199 #[.agg #[.int .i64 1,.int .i64 t.int,.int .i64 t.gen,.string t.name,.string t.func,.int .i64 t.arity,.slice so t.items.length c,.string t.bytes,.int .i64 t.bits]] wx (zcE w0 wx f t):=fun wx=>by have h:=zsZ t so c f w0 wx HT.out HKT.out;rwa [HKT.out]at h
   have n0:W2.cell? ⟨M,1,none⟩=some (.func (.func 199) #[] #[]):=zzq2 _ _ 1 _ _ _ HM2.out
   first|go_region_held3 (fun w'=>W2.heap.size<=w'.heap.size/\ ∀b o,b<W2.heap.size->w'.cell? ⟨b,o,none⟩=W2.cell? ⟨b,o,none⟩) (first|with_reducible exact HK5.out|with_reducible exact SK0.out|with_reducible exact zbL SK0.out|with_reducible exact SK1.out|with_reducible exact zbL HK5.out|with_reducible exact zdT HK5.out)
    ((go_at_call 199;refine(hQ _).mono ?_;rintro e w5 ⟨so',c',rfl,hs',hb5⟩;first|(have hbb:Below W2.heap.size W2 w5:=(by with_reducible exact zd HDR.out hb5);have HK5:=zzH (zY hbb))|(have hbb:Below W2.heap.size W2 w5:=(by with_reducible exact zd HDA.out hb5);have xl:w5.heap[W2.heap.size]?=some (.cells zC 55 (0,0)):=(hb5.block W2.heap.size (zc HAN.out)).trans HAN.out;have XL:=zzH xl;obtain⟨l0,l1,l2,l3,l4,l5,l6,l7,l8,lz⟩:=zg xl;clear xl;have HK5:=zzH (zY hbb))))|fail
   ·exact zz42
   ·exact zz41
  ·have hQ: ∀wx,Calls Tryz.prog 200 #[.agg #[.int .i64 2,.int .i64 t.int,.int .i64 t.gen,.string t.name,.string t.func,.int .i64 t.arity,.slice so t.items.length c,.string t.bytes,.int .i64 t.bits]] wx (zcE w0 wx f t):=fun wx=>by have h:=ztt t so c f w0 wx HT.out HKT.out;rwa [HKT.out]at h
   have n0:W2.cell? ⟨M,2,none⟩=some (.func (.func 200) #[] #[]):=zzq2 _ _ 2 _ _ _ HM2.out
   first|go_region_held3 (fun w'=>W2.heap.size<=w'.heap.size/\ ∀b o,b<W2.heap.size->w'.cell? ⟨b,o,none⟩=W2.cell? ⟨b,o,none⟩) (first|with_reducible exact HK5.out|with_reducible exact SK0.out|with_reducible exact zbL SK0.out|with_reducible exact SK1.out|with_reducible exact zbL HK5.out|with_reducible exact zdT HK5.out)
    ((go_at_call 200;refine(hQ _).mono ?_;rintro e w5 ⟨so',c',rfl,hs',hb5⟩;first|(have hbb:Below W2.heap.size W2 w5:=(by with_reducible exact zd HDR.out hb5);have HK5:=zzH (zY hbb))|(have hbb:Below W2.heap.size W2 w5:=(by with_reducible exact zd HDA.out hb5);have xl:w5.heap[W2.heap.size]?=some (.cells zC 55 (0,0)):=(hb5.block W2.heap.size (zc HAN.out)).trans HAN.out;have XL:=zzH xl;obtain⟨l0,l1,l2,l3,l4,l5,l6,l7,l8,lz⟩:=zg xl;clear xl;have HK5:=zzH (zY hbb))))|fail
   ·exact zz42
   ·exact zz41
  ·have hQ: ∀wx,Calls Tryz.prog 196 #[.agg #[.int .i64 3,.int .i64 t.int,.int .i64 t.gen,.string t.name,.string t.func,.int .i64 t.arity,.slice so t.items.length c,.string t.bytes,.int .i64 t.bits]] wx (zcE w0 wx f t):=fun wx=>by have h:=zsd t so c f w0 wx HT.out HKT.out;rwa [HKT.out]at h
   have n0:W2.cell? ⟨M,3,none⟩=some (.func (.func 196) #[] #[]):=zzq2 _ _ 3 _ _ _ HM2.out;exact zz39
  ·have hQ: ∀wx,Calls Tryz.prog 201 #[.agg #[.int .i64 4,.int .i64 t.int,.int .i64 t.gen,.string t.name,.string t.func,.int .i64 t.arity,.slice so t.items.length c,.string t.bytes,.int .i64 t.bits]] wx (zcE w0 wx f t):=fun wx=>by have h:=zsU t so c f w0 wx HT.out HKT.out;rwa [HKT.out]at h
   have n0:W2.cell? ⟨M,4,none⟩=some (.func (.func 201) #[] #[]):=zzq2 _ _ 4 _ _ _ HM2.out
   first|go_region_held3 (fun w'=>W2.heap.size<=w'.heap.size/\ ∀b o,b<W2.heap.size->w'.cell? ⟨b,o,none⟩=W2.cell? ⟨b,o,none⟩) (first|with_reducible exact HK5.out|with_reducible exact SK0.out|with_reducible exact zbL SK0.out|with_reducible exact SK1.out|with_reducible exact zbL HK5.out|with_reducible exact zdT HK5.out)
    ((go_at_call 201;refine(hQ _).mono ?_;rintro e w5 ⟨so',c',rfl,hs',hb5⟩;first|(have hbb:Below W2.heap.size W2 w5:=(by with_reducible exact zd HDR.out hb5);have HK5:=zzH (zY hbb))|(have hbb:Below W2.heap.size W2 w5:=(by with_reducible exact zd HDA.out hb5);have xl:w5.heap[W2.heap.size]?=some (.cells zC 55 (0,0)):=(hb5.block W2.heap.size (zc HAN.out)).trans HAN.out;have XL:=zzH xl;obtain⟨l0,l1,l2,l3,l4,l5,l6,l7,l8,lz⟩:=zg xl;clear xl;have HK5:=zzH (zY hbb))))|fail
   ·exact zz42
   ·exact zz41
  ·have hQ: ∀wx,Calls Tryz.prog 202 #[.agg #[.int .i64 5,.int .i64 t.int,.int .i64 t.gen,.string t.name,.string t.func,.int .i64 t.arity,.slice so t.items.length c,.string t.bytes,.int .i64 t.bits]] wx (zcE w0 wx f t):=fun wx=>by have h:=ztl t so c f w0 wx HT.out HKT.out;rwa [HKT.out]at h
   have n0:W2.cell? ⟨M,5,none⟩=some (.func (.func 202) #[] #[]):=zzq2 _ _ 5 _ _ _ HM2.out
   first|go_region_held3 (fun w'=>W2.heap.size<=w'.heap.size/\ ∀b o,b<W2.heap.size->w'.cell? ⟨b,o,none⟩=W2.cell? ⟨b,o,none⟩) (first|with_reducible exact HK5.out|with_reducible exact SK0.out|with_reducible exact zbL SK0.out|with_reducible exact SK1.out|with_reducible exact zbL HK5.out|with_reducible exact zdT HK5.out)
    ((go_at_call 202;refine(hQ _).mono ?_;rintro e w5 ⟨so',c',rfl,hs',hb5⟩;first|(have hbb:Below W2.heap.size W2 w5:=(by with_reducible exact zd HDR.out hb5);have HK5:=zzH (zY hbb))|(have hbb:Below W2.heap.size W2 w5:=(by with_reducible exact zd HDA.out hb5);have xl:w5.heap[W2.heap.size]?=some (.cells zC 55 (0,0)):=(hb5.block W2.heap.size (zc HAN.out)).trans HAN.out;have XL:=zzH xl;obtain⟨l0,l1,l2,l3,l4,l5,l6,l7,l8,lz⟩:=zg xl;clear xl;have HK5:=zzH (zY hbb))))|fail
   ·exact zz42
   ·exact zz41
  ·have hQ: ∀wx,Calls Tryz.prog 196 #[.agg #[.int .i64 6,.int .i64 t.int,.int .i64 t.gen,.string t.name,.string t.func,.int .i64 t.arity,.slice so t.items.length c,.string t.bytes,.int .i64 t.bits]] wx (zcE w0 wx f t):=fun wx=>by have h:=zsF t so c f w0 wx HT.out HKT.out;rwa [HKT.out]at h
   have n0:W2.cell? ⟨M,6,none⟩=some (.func (.func 196) #[] #[]):=zzq2 _ _ 6 _ _ _ HM2.out;exact zz39
  ·have hQ: ∀wx,Calls Tryz.prog 203 #[.agg #[.int .i64 7,.int .i64 t.int,.int .i64 t.gen,.string t.name,.string t.func,.int .i64 t.arity,.slice so t.items.length c,.string t.bytes,.int .i64 t.bits]] wx (zcE w0 wx f t):=fun wx=>by have h:=zr9 t so c f w0 wx HT.out HKT.out;rwa [HKT.out]at h
   have n0:W2.cell? ⟨M,7,none⟩=some (.func (.func 203) #[] #[]):=zzq2 _ _ 7 _ _ _ HM2.out
   first|go_region_held3 (fun w'=>W2.heap.size<=w'.heap.size/\ ∀b o,b<W2.heap.size->w'.cell? ⟨b,o,none⟩=W2.cell? ⟨b,o,none⟩) (first|with_reducible exact HK5.out|with_reducible exact SK0.out|with_reducible exact zbL SK0.out|with_reducible exact SK1.out|with_reducible exact zbL HK5.out|with_reducible exact zdT HK5.out)
    ((go_at_call 203;refine(hQ _).mono ?_;rintro e w5 ⟨so',c',rfl,hs',hb5⟩;first|(have hbb:Below W2.heap.size W2 w5:=(by with_reducible exact zd HDR.out hb5);have HK5:=zzH (zY hbb))|(have hbb:Below W2.heap.size W2 w5:=(by with_reducible exact zd HDA.out hb5);have xl:w5.heap[W2.heap.size]?=some (.cells zC 55 (0,0)):=(hb5.block W2.heap.size (zc HAN.out)).trans HAN.out;have XL:=zzH xl;obtain⟨l0,l1,l2,l3,l4,l5,l6,l7,l8,lz⟩:=zg xl;clear xl;have HK5:=zzH (zY hbb))))|fail
   ·exact zz42
   ·exact zz41
  ·have hQ: ∀wx,Calls Tryz.prog 204 #[.agg #[.int .i64 8,.int .i64 t.int,.int .i64 t.gen,.string t.name,.string t.func,.int .i64 t.arity,.slice so t.items.length c,.string t.bytes,.int .i64 t.bits]] wx (zcE w0 wx f t):=fun wx=>by have h:=ztc t so c f w0 wx HT.out HKT.out;rwa [HKT.out]at h
   have n0:W2.cell? ⟨M,8,none⟩=some (.func (.func 204) #[] #[]):=zzq2 _ _ 8 _ _ _ HM2.out
   first|go_region_held3 (fun w'=>W2.heap.size<=w'.heap.size/\ ∀b o,b<W2.heap.size->w'.cell? ⟨b,o,none⟩=W2.cell? ⟨b,o,none⟩) (first|with_reducible exact HK5.out|with_reducible exact SK0.out|with_reducible exact zbL SK0.out|with_reducible exact SK1.out|with_reducible exact zbL HK5.out|with_reducible exact zdT HK5.out)
    ((go_at_call 204;refine(hQ _).mono ?_;rintro e w5 ⟨so',c',rfl,hs',hb5⟩;first|(have hbb:Below W2.heap.size W2 w5:=(by with_reducible exact zd HDR.out hb5);have HK5:=zzH (zY hbb))|(have hbb:Below W2.heap.size W2 w5:=(by with_reducible exact zd HDA.out hb5);have xl:w5.heap[W2.heap.size]?=some (.cells zC 55 (0,0)):=(hb5.block W2.heap.size (zc HAN.out)).trans HAN.out;have XL:=zzH xl;obtain⟨l0,l1,l2,l3,l4,l5,l6,l7,l8,lz⟩:=zg xl;clear xl;have HK5:=zzH (zY hbb))))|fail
   ·exact zz42
   ·exact zz41
  ·have hQ: ∀wx,Below W2.heap.size W2 wx->Calls Tryz.prog 205 #[.agg #[.int .i64 9,.int .i64 t.int,.int .i64 t.gen,.string t.name,.string t.func,.int .i64 t.arity,.slice so t.items.length c,.string t.bytes,.int .i64 t.bits]] wx (zcE w0 wx f t):=fun wx hbx=>by have h:=zto t so c f w0 wx HT.out ((HB.out.trans (HB2.out.mono HWB.out)).trans (hbx.mono (zzY HB.out.size HB2.out.size))) HOK.out.2.2.2.2.2.2.1 HKT.out;rwa [HKT.out]at h
   have n0:W2.cell? ⟨M,9,none⟩=some (.func (.func 205) #[] #[]):=zzq2 _ _ 9 _ _ _ HM2.out
   first|go_region_held3 (fun w'=>W2.heap.size<=w'.heap.size/\ ∀b o,b<W2.heap.size->w'.cell? ⟨b,o,none⟩=W2.cell? ⟨b,o,none⟩) (first|with_reducible exact HK5.out|with_reducible exact SK0.out|with_reducible exact zbL SK0.out|with_reducible exact SK1.out|with_reducible exact zbL HK5.out|with_reducible exact zdT HK5.out)
    ((go_at_call 205;(first|(refine(hQ _ ?_).mono ?_;with_reducible exact HDR.out)|(refine(hQ _ ?_).mono ?_;with_reducible exact HDA.out));rintro e w5 ⟨so',c',rfl,hs',hb5⟩;first|(have hbb:Below W2.heap.size W2 w5:=(by with_reducible exact zd HDR.out hb5);have HK5:=zzH (zY hbb))|(have hbb:Below W2.heap.size W2 w5:=(by with_reducible exact zd HDA.out hb5);have xl:w5.heap[W2.heap.size]?=some (.cells zC 55 (0,0)):=(hb5.block W2.heap.size (zc HAN.out)).trans HAN.out;have XL:=zzH xl;obtain⟨l0,l1,l2,l3,l4,l5,l6,l7,l8,lz⟩:=zg xl;clear xl;have HK5:=zzH (zY hbb))))|fail
   ·exact zz42
   ·exact zz41
  ·have hQ: ∀wx,Calls Tryz.prog 206 #[.agg #[.int .i64 10,.int .i64 t.int,.int .i64 t.gen,.string t.name,.string t.func,.int .i64 t.arity,.slice so t.items.length c,.string t.bytes,.int .i64 t.bits]] wx (zcE w0 wx f t):=fun wx=>by have h:=zqM t so c f w0 wx HT.out HOK.out.2.2.2.2.2.2.2.1 HOK.out.2.2.2.2.2.2.2.2 HKT.out;rwa [HKT.out]at h
   have n0:W2.cell? ⟨M,10,none⟩=some (.func (.func 206) #[] #[]):=zzq2 _ _ 10 _ _ _ HM2.out
   first|go_region_held3 (fun w'=>W2.heap.size<=w'.heap.size/\ ∀b o,b<W2.heap.size->w'.cell? ⟨b,o,none⟩=W2.cell? ⟨b,o,none⟩) (first|with_reducible exact HK5.out|with_reducible exact SK0.out|with_reducible exact zbL SK0.out|with_reducible exact SK1.out|with_reducible exact zbL HK5.out|with_reducible exact zdT HK5.out)
    ((go_at_call 206;refine(hQ _).mono ?_;rintro e w5 ⟨so',c',rfl,hs',hb5⟩;first|(have hbb:Below W2.heap.size W2 w5:=(by with_reducible exact zd HDR.out hb5);have HK5:=zzH (zY hbb))|(have hbb:Below W2.heap.size W2 w5:=(by with_reducible exact zd HDA.out hb5);have xl:w5.heap[W2.heap.size]?=some (.cells zC 55 (0,0)):=(hb5.block W2.heap.size (zc HAN.out)).trans HAN.out;have XL:=zzH xl;obtain⟨l0,l1,l2,l3,l4,l5,l6,l7,l8,lz⟩:=zg xl;clear xl;have HK5:=zzH (zY hbb))))|fail
   ·exact zz42
   ·exact zz41
 case rest=>
  obtain⟨L,so',c',rfl,rfl,hL,hsl,hLr,hBx⟩:=hcut;rename World=>wc
  have HSL:=zzH hsl;clear hsl;obtain⟨x0,x1,x2,x3,x4,x5,x6,x7,x8,xz⟩:=zg hLr;refine zzK3 hLr hBx hL fun HLR HBX HL=>?_;clear hLr hBx hL q0 q1 q2 q3 q4 q5 q6 q7 q8 b0 hl0 hl1;have HMl2:=zzH hMl2;clear hMl2;have hq:okK t=false\/okK t=true:=by cases okK t<;>simp
  rcases hq with hq|hq
  ·have E:Hid (zj (f+1) t=false):=zzH (by unfold zj zcm;rw [hq];rfl)
   rw [hq];clear hq;go_wp2;go_ret;exact⟨zn E.out.symm,zbr (HBW2.out.trans ((HBX.out.mono (HBW2.out.size)).setCell (p:=⟨L,0,none⟩) (zzY HBW2.out.size HL.out) _)) _,s,Int.le_refl _,by omega,(zzq10 _ _ _ _ (Nat.ne_of_lt (zzW HMl2.out HL.out))).trans (HM2.out.below HBX.out),fun h=>absurd (E.out.symm.trans h) (by decide)⟩
  ·have HQ:=zzH hq
   rw [hq];clear hq;go_upto_region 5 with fail;have r6:(wc.setCell ⟨L,0,none⟩ (.int .i64 0)).heap[L]?=some (.cells #[.int .i64 0,.int .i64 (ze t).int,.int .i64 (ze t).gen,.string (ze t).name,.string (ze t).func,.int .i64 (ze t).arity,.slice so' (ze t).items.length c',.string (ze t).bytes,.int .i64 (ze t).bits] 55 (0,0)):=zzS _ _ 0 _ _ (.int .i64 0) HLR.out
   have hB6:Below w.heap.size w (wc.setCell ⟨L,0,none⟩ (.int .i64 0)):=HBW2.out.trans ((HBX.out.mono (HBW2.out.size)).setCell (p:=⟨L,0,none⟩) (zzY HBW2.out.size HL.out) _);have hB62:Below W2.heap.size W2 (wc.setCell ⟨L,0,none⟩ (.int .i64 0)):=HBX.out.setCell (p:=⟨L,0,none⟩) HL.out _;have HM6:Hid (MeasAt M s (wc.setCell ⟨L,0,none⟩ (.int .i64 0))):=zzH (HM2.out.below hB62);refine zzK3 ((hB62.block B (zc R0.out)).trans R0.out) ((hB62.block (B+1) (zc R1.out)).trans R1.out) hB6 fun HR0 HR1 HB6=>?_;clear hB6 hB62 x0 x1 x2 x3 x4 x5 x6 x7 x8 xz;generalize wc.setCell ⟨L,0,none⟩ (.int .i64 0)=w6 at *;have HB06:Hid (Below w0.heap.size w0 w6):=zzH (HB.out.trans (HB6.out.mono HB.out.size));have hSM:Calls Tryz.prog 207 #[.agg #[.int .i64 0,.int .i64 (ze t).int,.int .i64 (ze t).gen,.string (ze t).name,.string (ze t).func,.int .i64 (ze t).arity,.slice so' (ze t).items.length c',.string (ze t).bytes,.int .i64 (ze t).bits],.agg #[.int .i64 0,.int .i64 0,.int .i64 0,.string ⟨#[]⟩,.string ⟨#[]⟩,.int .i64 0,.slice none 0 0,.string ⟨#[]⟩,.int .i64 0]] w6 fun e w'=>e= .returned (.bool (zce (f+1) (zf9 t) ze0))/\Below w6.heap.size w6 w':=zqs f (zf9 t) ze0 so' none c' 0 w6 (HSL.out.tms HB06.out) (SlAt.nil _ _ _ _) (zzY (zcp t) HOK.out.2.2.2.2.2.2.1) (zzZ _)
   have HLO:Hid ((true&&zce (f+1) (zf9 t) ze0)=zcm t):=zzH (by rw [<-HQ.out];exact zpu f t);obtain⟨x0,x1,x2,x3,x4,x5,x6,x7,x8,xz⟩:=zg r6;clear r6 xz;generalize zce (f+1) (zf9 t) ze0=q at *
   cases q with
   |false=>
    have E:Hid (zj (f+1) t=false):=zzH (by unfold zj;rw [<-HLO.out];rfl);go_wp2_with fail;refine hSM.mono ?_;rintro e w7 ⟨rfl,hb7⟩;go_wp2;go_ret;exact⟨zn E.out.symm,zbr (zd HB6.out hb7) _,s,Int.le_refl _,by omega,HM6.out.below hb7,fun h=>absurd (E.out.symm.trans h) (by decide)⟩
   |true=>
    have HLB:Hid (zcm t=true):=zzH HLO.out.symm;go_wp2_with fail;refine hSM.mono ?_;rintro e w7 ⟨rfl,hb7⟩;have hR0:=(hb7.block B (zc HR0.out)).trans HR0.out;have hR1:=(hb7.block (B+1) (zc HR1.out)).trans HR1.out;have HM7:=zzH (HM6.out.below hb7);have HB7:=zzH (zd HB6.out hb7);clear hb7 hSM x0 x1 x2 x3 x4 x5 x6 x7 x8;obtain⟨y0,y1,y2,y3,y4,y5,y6,y7,y8,yz⟩:=zg hR1;have b0:w7.cell? ⟨B,0,none⟩=some (.pointer (some ⟨M,0,none⟩)):=by rw [zzq2 _ _ _ _ _ _ hR0];rfl
    obtain⟨m11,mz⟩:=HM7.out.cell;have HR07:=zzH hR0;have HR17:=zzH hR1;clear hR0 hR1 yz;by_cases k9:tk=9
    ·subst k9
     have hl2:=zow HLB.out HKT.out;have hcap:(zG (f+1) t:Int)=300+(t.items.length:Int)+(zbR (t.items.map (zG f)):Int):=by unfold zG;omega
     have hwr1:=zzV t.items.length (by omega)
     have hwr2:IntKind.i64.wrap (s+((t.items.length:Int)-1))=s+((t.items.length:Int)-1):=by rw [zzq5];omega
     go_upto_region 10 with fail;go_region;go_upto_region 13 with fail;have HM8:Hid (MeasAt M (s+((t.items.length:Int)-1)) (w7.setCell ⟨M,11,none⟩ (.int .i64 (s+((t.items.length:Int)-1)))).drew):=zzH (zhR HM7.out);have HG8:Hid (w.grownBy (w7.setCell ⟨M,11,none⟩ (.int .i64 (s+((t.items.length:Int)-1)))).drew (some M)):=zzH (zfX (zk (zbr HB7.out _) (zc1 _ _ _ _)));have hR0:(w7.setCell ⟨M,11,none⟩ (.int .i64 (s+((t.items.length:Int)-1)))).drew.heap[B]?=some (.cells #[.pointer (some ⟨M,0,none⟩)] 221 (0,0)):=(zzq10 _ _ _ _ (Nat.ne_of_gt HML.out)).trans HR07.out
     have hR1:(w7.setCell ⟨M,11,none⟩ (.int .i64 (s+((t.items.length:Int)-1)))).drew.heap[B+1]?=some (.cells #[.int .i64 9,.int .i64 t.int,.int .i64 t.gen,.string t.name,.string t.func,.int .i64 t.arity,.slice so t.items.length c,.string t.bytes,.int .i64 t.bits] 55 (0,0)):=(zzq10 _ _ _ _ (Nat.ne_of_gt (Nat.lt_succ_of_lt HML.out))).trans HR17.out
     have HB08:Hid (Below w0.heap.size w0 (w7.setCell ⟨M,11,none⟩ (.int .i64 (s+((t.items.length:Int)-1)))).drew):=zzH (zdS HB.out HG8.out hM);clear y0 y1 y2 y3 y4 y5 y6 y7 y8 b0 m11 mz;generalize(w7.setCell ⟨M,11,none⟩ (.int .i64 (s+((t.items.length:Int)-1)))).drew=w8 at *;obtain⟨y0,y1,y2,y3,y4,y5,y6,y7,y8,yz⟩:=zg hR1;have hCF:=HC.out t.items so c M B (s+((t.items.length:Int)-1)) w0 w8 HT.out HOK.out.2.2.2.2.2.2.1 HB08.out hM HM8.out hR0 (Nat.ne_of_gt HML.out) (by omega) (by omega);have EF:Hid (zj (f+1) t=t.items.all (zj f)):=zzH (by unfold zj;rw [HLB.out];rfl);have EW:Hid (zt (f+1) t=((t.items.length:Int)-1)+zbB (t.items.map (zt f))):=zzH (by unfold zt zR;rw [HKT.out];rfl);exact zz40
    ·by_cases k10:tk=10
     ·subst k10
      obtain⟨hl2,hl3⟩:=zmJ HLB.out HKT.out;have hcap:(zG (f+1) t:Int)=300+(t.items.length:Int)+(zbR (t.items.map (zG f)):Int):=by unfold zG;omega
      have hwr0:IntKind.i64.wrap (t.bits+63)=t.bits+63:=by rw [zzq5];omega
      have hwd:(t.bits+63).tdiv 64=(t.bits+63)/64:=by rw [Int.tdiv_eq_ediv_of_nonneg (by omega)]
      have hwr1:IntKind.i64.wrap (1+(t.bits+63)/64)=1+(t.bits+63)/64:=by rw [zzq5];omega
      have hwr2:IntKind.i64.wrap (s+(1+(t.bits+63)/64))=s+(1+(t.bits+63)/64):=by rw [zzq5];omega
      go_upto_region 12 with fail;go_region;go_upto_region 13 with fail;have HM8:Hid (MeasAt M (s+(1+(t.bits+63)/64)) (w7.setCell ⟨M,11,none⟩ (.int .i64 (s+(1+(t.bits+63)/64)))).drew):=zzH (zhR HM7.out);have HG8:Hid (w.grownBy (w7.setCell ⟨M,11,none⟩ (.int .i64 (s+(1+(t.bits+63)/64)))).drew (some M)):=zzH (zfX (zk (zbr HB7.out _) (zc1 _ _ _ _)));have hR0:(w7.setCell ⟨M,11,none⟩ (.int .i64 (s+(1+(t.bits+63)/64)))).drew.heap[B]?=some (.cells #[.pointer (some ⟨M,0,none⟩)] 221 (0,0)):=(zzq10 _ _ _ _ (Nat.ne_of_gt HML.out)).trans HR07.out
      have hR1:(w7.setCell ⟨M,11,none⟩ (.int .i64 (s+(1+(t.bits+63)/64)))).drew.heap[B+1]?=some (.cells #[.int .i64 10,.int .i64 t.int,.int .i64 t.gen,.string t.name,.string t.func,.int .i64 t.arity,.slice so t.items.length c,.string t.bytes,.int .i64 t.bits] 55 (0,0)):=(zzq10 _ _ _ _ (Nat.ne_of_gt (Nat.lt_succ_of_lt HML.out))).trans HR17.out
      have HB08:Hid (Below w0.heap.size w0 (w7.setCell ⟨M,11,none⟩ (.int .i64 (s+(1+(t.bits+63)/64)))).drew):=zzH (zdS HB.out HG8.out hM);clear y0 y1 y2 y3 y4 y5 y6 y7 y8 b0 m11 mz;generalize(w7.setCell ⟨M,11,none⟩ (.int .i64 (s+(1+(t.bits+63)/64)))).drew=w8 at *;obtain⟨y0,y1,y2,y3,y4,y5,y6,y7,y8,yz⟩:=zg hR1;have hCF:=HC.out t.items so c M B (s+(1+(t.bits+63)/64)) w0 w8 HT.out HOK.out.2.2.2.2.2.2.1 HB08.out hM HM8.out hR0 (Nat.ne_of_gt HML.out) (by omega) (by omega);have EF:Hid (zj (f+1) t=t.items.all (zj f)):=zzH (by unfold zj;rw [HLB.out];rfl);have EW:Hid (zt (f+1) t=(1+(t.bits+63)/64)+zbB (t.items.map (zt f))):=zzH (by unfold zt zR;rw [HKT.out];rfl);exact zz40
     ·have hcap:(zG (f+1) t:Int)=300+(t.items.length:Int)+(zbR (t.items.map (zG f)):Int):=by unfold zG;omega
      have t9:(tk==9)=false:=zzB.2 k9;have t10:(tk==10)=false:=zzB.2 k10;have K9:=zzH k9;have K10:=zzH k10;clear k9 k10;go_upto_region 13 with fail;have HM8:Hid (MeasAt M (s+1) (w7.setCell ⟨M,11,none⟩ (.int .i64 (s+1)))):=zzH (zhR HM7.out);have HG8:Hid (w.grownBy (w7.setCell ⟨M,11,none⟩ (.int .i64 (s+1))) (some M)):=zzH ((zk (zbr HB7.out _) (zc1 _ _ _ _)));have hR0:(w7.setCell ⟨M,11,none⟩ (.int .i64 (s+1))).heap[B]?=some (.cells #[.pointer (some ⟨M,0,none⟩)] 221 (0,0)):=(zzq10 _ _ _ _ (Nat.ne_of_gt HML.out)).trans HR07.out
      have hR1:(w7.setCell ⟨M,11,none⟩ (.int .i64 (s+1))).heap[B+1]?=some (.cells #[.int .i64 tk,.int .i64 t.int,.int .i64 t.gen,.string t.name,.string t.func,.int .i64 t.arity,.slice so t.items.length c,.string t.bytes,.int .i64 t.bits] 55 (0,0)):=(zzq10 _ _ _ _ (Nat.ne_of_gt (Nat.lt_succ_of_lt HML.out))).trans HR17.out
      have HB08:Hid (Below w0.heap.size w0 (w7.setCell ⟨M,11,none⟩ (.int .i64 (s+1)))):=zzH (zdS HB.out HG8.out hM);clear y0 y1 y2 y3 y4 y5 y6 y7 y8 b0 m11 mz;generalize(w7.setCell ⟨M,11,none⟩ (.int .i64 (s+1)))=w8 at *;obtain⟨y0,y1,y2,y3,y4,y5,y6,y7,y8,yz⟩:=zg hR1;have hCF:=HC.out t.items so c M B (s+1) w0 w8 HT.out HOK.out.2.2.2.2.2.2.1 HB08.out hM HM8.out hR0 (Nat.ne_of_gt HML.out) (by omega) (by omega);have EF:Hid (zj (f+1) t=t.items.all (zj f)):=zzH (by unfold zj;rw [HLB.out];rfl);have EW:Hid (zt (f+1) t=1+zbB (t.items.map (zt f))):=zzH (by unfold zt zR;rw [HKT.out];rw [if_neg K9.out,if_neg K10.out]);exact zz40
theorem zol {f:Nat} (HC:Hid (CfP f)):OfP f:=fun t so c M s w0 w ht hok hb hM hm hs0 hs1=>by
 by_cases hk:0<=t.kind/\t.kind<11
 ·exact zuu HC t so c M s w0 w ht hok hb hM hm hs0 hs1 hk.1 hk.2
 ·exact ztV t so c M s w0 w hm hk
theorem zov {M:Nat} {s:Int} {c1:Nat} {o1:Bool} {a1:Int} {w w1 w2:World} (h:Below w.heap.size w w1) (h1:zfC M s c1 o1 a1 w1 w2):zfC M s c1 o1 a1 w w2:=⟨zk (zbr h _) h1.1,h1.2⟩
theorem zsq {f:Nat} (HO:Hid (OfP f)) (t:Tm) (so:zzA) (c M mb:Nat) (s:Int) (w0 w:World) (ht:SlAt w0 9 (TmAt w0 f) so t.items) (hok:t.Ok) (hb:Below w0.heap.size w0 w) (hM:w0.heap.size<=M) (hm:MeasAt M s w) (hmb:w.heap[mb]?=some (.cells #[.pointer (some ⟨M,0,none⟩)] 221 (0,0))) (hs0:0<=s) (hs1:s+zG (f+1) t<=1152921504606846976):
  Calls Tryz.prog 209 #[.agg (zzt t so c),.pointer (some ⟨mb,0,none⟩)] w fun e w'=>e= .returned (.bool (!(zj (f+1) t)))/\zfC M s (zG (f+1) t) (zj (f+1) t) (zt (f+1) t) w w':=by
 unfold zzt;have hB:Below w.heap.size w (w.alloc (.cells (zzt t so c) 55)):=zzE _ _;have hO:=HO.out t so c M s w0 (w.alloc (.cells (zzt t so c) 55)) ht hok (hb.trans (hB.mono hb.size)) hM (hm.below hB) hs0 hs1;have c0:w.cell? ⟨mb,0,none⟩=some (.pointer (some ⟨M,0,none⟩)):=by rw [zzq2 _ _ _ _ _ _ hmb];rfl
 have hl:=zc hmb;have HBB:=zzH hB;clear hmb hB hm hb ht hok hs0 hs1;generalize zj (f+1) t=r at *
 cases r
 all_goals
  go_in;go_wp2_with fail;refine hO.mono ?_;rintro e w5 ⟨rfl,hq⟩;have HQ:=zzH hq;clear hq;go_wp2;go_ret;exact⟨rfl,zov HBB.out HQ.out⟩
theorem zjy {f:Nat} {l:List Tm} {k:Nat} (h:k<l.length):zbR ((l.drop k).map (zG f))=zG f l[k]+zbR ((l.drop (k+1)).map (zG f)):=by
 rw [List.drop_eq_getElem_cons h,List.map_cons,zbR]
theorem zhj {f:Nat} {l:List Tm} {k:Nat} (h:k<l.length):zbB ((l.drop k).map (zt f))=zt f l[k]+zbB ((l.drop (k+1)).map (zt f)):=by
 rw [List.drop_eq_getElem_cons h,List.map_cons,zbB]
theorem zgQ {p:Tm->Bool} {l:List Tm} {k:Nat} (h:k<l.length):(l.drop k).all p=(p l[k]&&(l.drop (k+1)).all p):=by
 rw [List.drop_eq_getElem_cons h,List.all_cons]
def zq3 (M:Nat) (s:Int) (cap:Nat) (ok:Bool) (add:Int) (w:World) (e:Ending) (w':World):Prop:=(∃i:Int,e= .returned (.int .i64 i)/\decide (0<=i)= !ok)/\zfC M s cap ok add w w'
def GoQ (M:Nat) (s:Int) (f:Nat) (l:List Tm) (k:Nat) (w wr:World):Prop:=w.grownBy wr (some M)/\ ∃s',s<=s'/\s'+zbR ((l.drop k).map (zG f))<=s+zbR (l.map (zG f))/\MeasAt M s' wr/\l.all (zj f)=(l.drop k).all (zj f)/\s'+zbB ((l.drop k).map (zt f))=s+zbB (l.map (zt f))
theorem zrN {f:Nat} (HO:Hid (OfP f)) (l:List Tm) (ao:zzA) (c M mb:Nat) (s:Int) (w0 w:World) (ht:SlAt w0 9 (TmAt w0 (f+1)) ao l) (hl:l.length<=maxLen) (hb:Below w0.heap.size w0 w) (hM:w0.heap.size<=M) (hm:MeasAt M s w) (hmb:w.heap[mb]?=some (.cells #[.pointer (some ⟨M,0,none⟩)] 221 (0,0))) (hne:mb≠M) (hs0:0<=s) (hs1:s+zbR (l.map (zG (f+1)))<=1152921504606846976):
  Calls Tryz.prog 221 #[.slice ao l.length c,.func (.func 209) #[] #[.pointer (some ⟨mb,0,none⟩)]] w (zq3 M s (zbR (l.map (zG (f+1)))) (l.all (zj (f+1))) (zbB (l.map (zt (f+1)))) w):=by
 unfold maxLen at hl;refine zzK3 ht hb hmb fun HT HB HMB=>?_;have HG:Hid (GoQ M s (f+1) l 0 w w):=zzH ⟨zcP _ _,s,Int.le_refl _,by rw [List.drop_zero];omega,hm,rfl,by rw [List.drop_zero]⟩;have HML:=zzH (zc hmb);clear ht hb hmb hm;go_in;go_wp2_with fail;go_loopw [5,8] (fun _ i wr=> ∃k:Nat,k<=l.length/\i= .int .i64 k/\Hid (GoQ M s (f+1) l k w wr)) (fun _ i _=>l.length-(intOf i).toNat)
 case atStart=>exact⟨0,zzZ _,rfl,HG⟩
 case round=>
  obtain⟨k,hk,rfl,HK⟩:=hrel;rename World=>wr
  obtain⟨g1,s',z1,z2,z3,z4,z5⟩:=HK.out;have hB0r:Below w0.heap.size w0 wr:=zdS HB.out g1 hM;have hmbr:=(g1.block mb HML.out (fun e=>hne (zzf e))).trans HMB.out;by_cases hlt:k<l.length
  ·have hsa:=HT.out.tms hB0r
   obtain⟨b1,off1,ai,ci,hao,hb1,q0,q1,q2,q3,q4,q5,q6,q7,q8,hit,hok⟩:=hsa.tm hlt;obtain⟨b1',off1',ai',ci',hao',hb1',q0',q1',q2',q3',q4',q5',q6',q7',q8',hit',hok'⟩:=HT.out.tm hlt;subst hao;obtain⟨rfl,rfl⟩:b1=b1'/\off1=off1':=by injection hao' with h;injection h with h1 h2;exact⟨h1,h2⟩
   have hai:ai=ai':=by
    exact zz43
   subst hai;rw [zjy hlt]at z2;rw [zgQ hlt]at z4;rw [zhj hlt]at z5;have hO:=zsq HO l[k] ai ci M mb s' w0 wr hit' hok hB0r hM z3 hmbr (by omega) (by omega);refine zzK3 z2 z4 z5 fun Z2 Z4 Z5=>?_;clear hao' q0' q1' q2' q3' q4' q5' q6' q7' q8' hit' hok' hit hok hsa z2 z4 z5;generalize l[k]=x at *
   cases hr:zj (f+1) x with
   |true=>
    rw [hr]at hO;have Z4':Hid (l.all (zj (f+1))=(l.drop (k+1)).all (zj (f+1))):=zzH (by rw [Z4.out,hr,zzq15]);clear hr;go_wp2_with fail;refine hO.mono ?_;rintro e w5 ⟨rfl,g5,s5,y1,y2,y3,y4⟩;have HG5:Hid (GoQ M s (f+1) l (k+1) w w5):=zzH ⟨zk g1 g5,s5,by omega,by have:=Z2.out;omega,y3,Z4'.out,by have:=Z5.out;have:=y4 rfl;omega⟩;exact zz44
   |false=>
    rw [hr]at hO;have Z4':Hid (l.all (zj (f+1))=false):=zzH (by rw [Z4.out,hr,Bool.false_and]);clear hr;go_wp2_with fail;refine hO.mono ?_;rintro e w5 ⟨rfl,g5,s5,y1,y2,y3,y4⟩;have HF:Hid (zfC M s (zbR (l.map (zG (f+1)))) (l.all (zj (f+1))) (zbB (l.map (zt (f+1)))) w w5):=zzH ⟨zk g1 g5,s5,by omega,by have:=Z2.out;omega,y3,fun h=>absurd (Z4'.out.symm.trans h) (by decide)⟩;have HE:Hid (decide (0<=(k:Int))= !(l.all (zj (f+1)))):=zzH (by rw [Z4'.out,decide_eq_true (by omega)];rfl);go_wp2;go_ret;exact⟨⟨_,rfl,HE.out⟩,HF.out⟩
  ·have hke:l.drop k= []:=zzq8 (by omega)
   rw [hke]at z2 z4 z5;have HF:Hid (zfC M s (zbR (l.map (zG (f+1)))) (l.all (zj (f+1))) (zbB (l.map (zt (f+1)))) w wr):=zzH ⟨g1,s',z1,by simp only [List.map_nil,zbR]at z2;omega,z3,fun _=>by simp only [List.map_nil,zbB]at z5;omega⟩;have HE:Hid (decide (0<=(-1:Int))= !(l.all (zj (f+1)))):=zzH (by rw [z4];rfl);clear z2 z4 z5 hke;go_wp2;go_ret;exact⟨⟨_,rfl,HE.out⟩,HF.out⟩
theorem zqX (ao:zzA) (c M mb:Nat) (s:Int) (w:World) (hm:MeasAt M s w):
  Calls Tryz.prog 221 #[.slice ao 0 c,.func (.func 209) #[] #[.pointer (some ⟨mb,0,none⟩)]] w (zq3 M s 0 true 0 w):=by
 have HF:Hid (zfC M s 0 true 0 w w):=zzH ⟨zcP _ _,s,Int.le_refl _,by omega,hm,fun _=>by omega⟩;clear hm;go_in;go_wp2_with fail;go_loop [8] (fun i=>i= .int .i64 0) (fun _=>0)
 case atStart=>rfl
 case round=>
  obtain rfl:=hrel;go_wp2;go_ret;exact⟨⟨_,rfl,rfl⟩,HF.out⟩
theorem zr4 (l:List Tm) (ao:zzA) (c M mb:Nat) (s:Int) (cap:Nat) (ok:Bool) (add:Int) (w:World)
  (h:Calls Tryz.prog 221 #[.slice ao l.length c,.func (.func 209) #[] #[.pointer (some ⟨mb,0,none⟩)]] w (zq3 M s cap ok add w)):
  Calls Tryz.prog 208 #[.slice ao l.length c,.func (.func 209) #[] #[.pointer (some ⟨mb,0,none⟩)]] w fun e w'=>e= .returned (.bool (!ok))/\zfC M s cap ok add w w':=by
 go_in;go_wp2_with fail;refine h.mono ?_;rintro e w5 ⟨⟨i,rfl,hi⟩,hq⟩;have HI:=zzH hi;have HQ:=zzH hq;clear hi hq;go_wp2;go_ret;exact⟨zn HI.out,HQ.out⟩
theorem zoS: ∀f,CfP f
 |0=>fun l ao c M mb s w0 w ht hl hb hM hm hmb hne hs0 hs1=>by
  obtain rfl:=ht.zero;exact zr4 [] ao c M mb s 0 true 0 w (zqX ao c M mb s w hm)
 |f+1=>fun l ao c M mb s w0 w ht hl hb hM hm hmb hne hs0 hs1=>
  zr4 l ao c M mb s _ _ _ w (zrN (zzH (zol (zzH (zoS f)))) l ao c M mb s w0 w ht hl hb hM hm hmb hne hs0 hs1)
theorem zt0 (f:Nat):OfP f:=zol (zzH (zoS f))
theorem zoi (w:World):Calls Tryz.prog 161 #[] w fun e w'=>e= .returned (.agg #[.func (.func 198) #[] #[],.func (.func 199) #[] #[],.func (.func 200) #[] #[],.func (.func 196) #[] #[],.func (.func 201) #[] #[],.func (.func 202) #[] #[],.func (.func 196) #[] #[],.func (.func 203) #[] #[],.func (.func 204) #[] #[],.func (.func 205) #[] #[],.func (.func 206) #[] #[]])/\Below w.heap.size w w':=by
 go_in;go_wp2_with fail;exact zzj (v:=.agg #[.func (.func 198) #[] #[],.func (.func 199) #[] #[],.func (.func 200) #[] #[],.func (.func 196) #[] #[],.func (.func 201) #[] #[],.func (.func 202) #[] #[],.func (.func 196) #[] #[],.func (.func 203) #[] #[],.func (.func 204) #[] #[],.func (.func 205) #[] #[],.func (.func 206) #[] #[]]) (by simp [results,Tryz.results161,go_sem]) rfl ⟨rfl,zzE _ _⟩
def zmy (w:World) (ok:Bool) (n:Int) (e:Ending) (w':World):Prop:=e= .returned (.tuple #[.int .i64 (if ok=true then n else 0),.bool ok])/\Below w.heap.size w w'
theorem ztx {w w':World} {ok:Bool} {n:Int} (h:ok=false) (hb:Below w.heap.size w w'):zmy w ok n (.returned (.tuple #[.int .i64 0,.bool false])) w':=by subst h;exact⟨rfl,hb⟩
theorem zrI {w w':World} {ok:Bool} {n m:Int} (h:ok=true) (hn:m=n) (hb:Below w.heap.size w w'):zmy w ok n (.returned (.tuple #[.int .i64 m,.bool true])) w':=by subst h;subst hn;exact⟨rfl,hb⟩
theorem zse (f:Nat) (l:List Tm) (ao:zzA) (c:Nat) (w:World) (ht:SlAt w 9 (TmAt w (f+1)) ao l) (hl:l.length<=maxLen) (hs1:(zbR (l.map (zG (f+1))):Int)<=1152921504606846976):
  Calls Tryz.prog 144 #[.slice ao l.length c] w (zmy w (l.all (zj (f+1))) (zbB (l.map (zt (f+1))))):=by
 unfold maxLen at hl;have HT:=zzH ht;clear ht;go_in;go_wp2_with fail;refine(zoi _).mono ?_;rintro e w1 ⟨rfl,hb1⟩;go_wp2_with fail;have hm:=zzF w1 (.cells #[.func (.func 198) #[] #[],.func (.func 199) #[] #[],.func (.func 200) #[] #[],.func (.func 196) #[] #[],.func (.func 201) #[] #[],.func (.func 202) #[] #[],.func (.func 196) #[] #[],.func (.func 203) #[] #[],.func (.func 204) #[] #[],.func (.func 205) #[] #[],.func (.func 206) #[] #[],.int .i64 0] 226);have hb2:Below w.heap.size w (w1.alloc (.cells #[.func (.func 198) #[] #[],.func (.func 199) #[] #[],.func (.func 200) #[] #[],.func (.func 196) #[] #[],.func (.func 201) #[] #[],.func (.func 202) #[] #[],.func (.func 196) #[] #[],.func (.func 203) #[] #[],.func (.func 204) #[] #[],.func (.func 205) #[] #[],.func (.func 206) #[] #[],.int .i64 0] 226)):=hb1.alloc hb1.size _;have hM:w.heap.size<=w1.heap.size:=hb1.size;generalize w1.alloc (.cells #[.func (.func 198) #[] #[],.func (.func 199) #[] #[],.func (.func 200) #[] #[],.func (.func 196) #[] #[],.func (.func 201) #[] #[],.func (.func 202) #[] #[],.func (.func 196) #[] #[],.func (.func 203) #[] #[],.func (.func 204) #[] #[],.func (.func 205) #[] #[],.func (.func 206) #[] #[],.int .i64 0] 226)=W at *;generalize w1.heap.size=M at *;have HM:Hid (MeasAt M 0 W):=zzH hm;have HG:Hid (GoQ M 0 (f+1) l 0 W W):=zzH ⟨zcP _ _,0,Int.le_refl _,by rw [List.drop_zero];omega,hm,rfl,by rw [List.drop_zero]⟩;have HB:=zzH hb2;clear hm hb2 hb1;go_loopw [7,15] (fun _ i wr=> ∃k:Nat,k<=l.length/\i= .int .i64 k/\Hid (GoQ M 0 (f+1) l k W wr)) (fun _ i _=>l.length-(intOf i).toNat)
 case atStart=>exact⟨0,zzZ _,rfl,HG⟩
 case round=>
  obtain⟨k,hk,rfl,HK⟩:=hrel;rename World=>wr
  obtain⟨g1,s',z1,z2,z3,z4,z5⟩:=HK.out;have hB0r:Below w.heap.size w wr:=zdS HB.out g1 hM;by_cases hlt:k<l.length
  ·have hsa:=HT.out.tms hB0r
   obtain⟨b1,off1,ai,ci,hao,hb1,q0,q1,q2,q3,q4,q5,q6,q7,q8,hit,hok⟩:=hsa.tm hlt;obtain⟨b1',off1',ai',ci',hao',hb1',q0',q1',q2',q3',q4',q5',q6',q7',q8',hit',hok'⟩:=HT.out.tm hlt;subst hao;obtain⟨rfl,rfl⟩:b1=b1'/\off1=off1':=by injection hao' with h;injection h with h1 h2;exact⟨h1,h2⟩
   have hai:ai=ai':=by
    exact zz43
   subst hai;rw [zjy hlt]at z2;rw [zgQ hlt]at z4;rw [zhj hlt]at z5;have hbx:Below wr.heap.size wr (wr.alloc (.cells (zzt l[k] ai ci) 55)):=zzE _ _;have HGX:Hid (W.grownBy (wr.alloc (.cells (zzt l[k] ai ci) 55)) (some M)):=zzH (zk g1 (zbr hbx _));have hO:=zt0 f l[k] ai ci M s' w (wr.alloc (.cells (zzt l[k] ai ci) 55)) hit' hok' (hB0r.trans (hbx.mono hB0r.size)) hM (z3.below hbx) (by omega) (by omega);refine zzK3 z2 z4 z5 fun Z2 Z4 Z5=>?_;clear hao' q0' q1' q2' q3' q4' q5' q6' q7' q8' hit' hok' hit hok hsa z2 z4 z5 hbx;generalize l[k]=x at *
   cases hr:zj (f+1) x with
   |true=>
    rw [hr]at hO;have Z4':Hid (l.all (zj (f+1))=(l.drop (k+1)).all (zj (f+1))):=zzH (by rw [Z4.out,hr,zzq15]);clear hr;go_wp2_with fail;refine hO.mono ?_;rintro e w5 ⟨rfl,g5,s5,y1,y2,y3,y4⟩;have HG5:Hid (GoQ M 0 (f+1) l (k+1) W w5):=zzH ⟨zk HGX.out g5,s5,by omega,by have:=Z2.out;omega,y3,Z4'.out,by have:=Z5.out;have:=y4 rfl;omega⟩;exact zz44
   |false=>
    rw [hr]at hO;have Z4':Hid (l.all (zj (f+1))=false):=zzH (by rw [Z4.out,hr,Bool.false_and]);clear hr;go_wp2_with fail;refine hO.mono ?_;rintro e w5 ⟨rfl,g5,s5,y1,y2,y3,y4⟩;have HF:Hid (Below w.heap.size w w5):=zzH (zdS HB.out (zk HGX.out g5) hM);go_wp2;go_ret2;exact ztx Z4'.out HF.out
  ·have hke:l.drop k= []:=zzq8 (by omega)
   rw [hke]at z4 z5;have E1:Hid (l.all (zj (f+1))=true):=zzH z4;have E2:Hid (s'=zbB (l.map (zt (f+1)))):=zzH (by simp only [List.map_nil,zbB]at z5;omega);obtain⟨m11,mz⟩:=z3.cell;clear z2 z4 z5 hke z3;go_wp2;go_ret2;exact zrI E1.out E2.out hB0r
def zef (f:Nat) (t:Tm):Int:=if zj f t=true then(if 2000<zt f t then 3 else 0)else 2
theorem zm7 (f:Nat) (t:Tm) (so:zzA) (c:Nat) (w:World) (ht:SlAt w 9 (TmAt w f) so t.items) (hok:t.Ok) (hs1:(zG (f+1) t:Int)<=1152921504606846976):
  Calls Tryz.prog 116 #[.agg (zzt t so c)] w fun e w'=>e= .returned (.int .i64 (zef (f+1) t))/\Below w.heap.size w w':=by
 unfold zzt;have hB:=zU w (.cells #[.int .i64 t.kind,.int .i64 t.int,.int .i64 t.gen,.string t.name,.string t.func,.int .i64 t.arity,.slice so t.items.length c,.string t.bytes,.int .i64 t.bits] 55) (.cells #[.int .i64 t.kind,.int .i64 t.int,.int .i64 t.gen,.string t.name,.string t.func,.int .i64 t.arity,.slice so t.items.length c,.string t.bytes,.int .i64 t.bits] 55);have hr:=zeR w (.cells #[.int .i64 t.kind,.int .i64 t.int,.int .i64 t.gen,.string t.name,.string t.func,.int .i64 t.arity,.slice so t.items.length c,.string t.bytes,.int .i64 t.bits] 55) (.cells #[.int .i64 t.kind,.int .i64 t.int,.int .i64 t.gen,.string t.name,.string t.func,.int .i64 t.arity,.slice so t.items.length c,.string t.bytes,.int .i64 t.bits] 55)
 have hS:=zse f [t] (some ⟨w.heap.size+1,0,none⟩) 1 ((w.alloc (.cells (zzt t so c) 55)).alloc (.cells (zzt t so c) 55)) (.inr ⟨w.heap.size+1,0,rfl,by simp,fun j hj=>by
  obtain rfl:j=0:=by simpa using hj
  refine⟨[.int .i64 t.kind,.int .i64 t.int,.int .i64 t.gen,.string t.name,.string t.func,.int .i64 t.arity,.slice so t.items.length c,.string t.bytes,.int .i64 t.bits],rfl,fun i hi=>?_,⟨so,c,rfl,ht.tms hB⟩,hok⟩;rw [show 0+0*9+i=i by omega,zzq2 _ _ _ _ _ _ hr];simp⟩) (by unfold maxLen;simp) (by simp [zbR];omega)
 have e1: [t].all (zj (f+1))=zj (f+1) t:=by simp
 have e2:zbB ([t].map (zt (f+1)))=zt (f+1) t:=by simp [zbB]
 rw [e1,e2]at hS;unfold zmy at hS;have E:Hid (zef (f+1) t=if zj (f+1) t=true then(if 2000<zt (f+1) t then 3 else 0)else 2):=zzH rfl;have HB:=zzH hB;clear e1 e2 hr hB ht hok hs1;generalize zj (f+1) t=r at *;generalize zt (f+1) t=n at *
 cases r with
 |false=>
  rw [if_neg (by decide)]at E hS;exact zz45
 |true=>
  rw [if_pos rfl]at E hS;by_cases hn:2000<n
  ·rw [if_pos hn]at E
   exact zz45
  ·rw [if_neg hn]at E
   have hn':n<=2000:=by omega
   clear hn;exact zz45
theorem zeZ (f:Nat) (t:Tm) (so:zzA) (c:Nat) (w:World) (ht:SlAt w 9 (TmAt w f) so t.items) (hok:t.Ok) (hs1:(zG (f+1) t:Int)<=1152921504606846976):
  Calls Tryz.prog 75 #[.agg (zzt t so c)] w fun e w'=>e= .returned (.bool (zA (f+1) t))/\Below w.heap.size w w':=by
 unfold zzt;have hB:Below w.heap.size w (w.alloc (.cells (zzt t so c) 55)):=zzE _ _;have hC:=zm7 f t so c (w.alloc (.cells (zzt t so c) 55)) (ht.tms hB) hok hs1
 have E:Hid ((zef (f+1) t==0)=zA (f+1) t):=zzH (by
  unfold zef zA
  cases zj (f+1) t
  ·rfl
  ·rw [if_pos rfl,zzq15]
   by_cases h:2000<zt (f+1) t
   ·rw [if_pos h,decide_eq_false (by omega)];rfl
   ·rw [if_neg h,decide_eq_true (by omega)];rfl)
 have HB:=zzH hB;clear hB ht hok hs1;generalize zef (f+1) t=n at *;go_in;go_wp2_with fail;refine hC.mono ?_;rintro e w5 ⟨rfl,hb5⟩;go_wp2;go_ret;exact⟨zn E.out,zd HB.out hb5⟩
theorem zkT: ∀(f:Nat) (ao:zzA) (c:Nat) (l:List Tm) (m:Int) (w:World),SlAt w 9 (TmAt w f) ao l->l.length<=maxLen-> -1<=m->m<=1000000 ->
  Calls Tryz.prog 22 #[.slice ao l.length c,.int .i64 m] w fun e w'=>e= .returned (.int .i64 (zbS f l m))/\Below w.heap.size w w'
 |0,ao,c,l,m,w,h,hl,h0,h1=>by
  obtain rfl:=h.zero;have HE:Hid (zbS 0 [] m=m):=zzH rfl;go_in;go_wp2_with fail;go_loop [1,5] (fun mv i=>mv= .int .i64 m/\i= .int .i64 0) (fun _ _=>0)
  case atStart=>exact⟨rfl,rfl⟩
  case round=>
   obtain⟨rfl,rfl⟩:=hrel;go_wp2;go_ret;exact⟨zcQ HE.out.symm,zzR _ _⟩
 |f+1,ao,c,l,m,w,h,hl,h0,h1=>by
  have IH:=zzH (zkT f);have HS:=zzH h;have HV:Hid (zbS (f+1) l m=zdd (zbS f) l m):=zzH rfl;have HM:=zzH (zfR f);clear h;unfold maxLen at hl;go_in;go_wp2_with fail;go_loopw [1,5] (fun mv i wr=> ∃(k:Nat) (m':Int),k<=l.length/\i= .int .i64 k/\mv= .int .i64 m'/\ -1<=m'/\m'<=1000000/\Hid (zdd (zbS f) l m=zdd (zbS f) (l.drop k) m')/\Below w.heap.size w wr) (fun _ i _=>l.length-(intOf i).toNat)
  case atStart=>exact⟨0,m,zzZ _,rfl,rfl,h0,h1,zzH rfl,zzR _ _⟩
  case round=>
   obtain⟨k,m',hk,rfl,rfl,g0,g1,HG,hB⟩:=hrel;rename World=>wr
   by_cases hlt:k<l.length
   ·by_cases hm:0<=m'
    ·have hs2:=HS.out.tms hB
     obtain⟨b,off,ai,ci,hao,hb,q0,q1,q2,q3,q4,q5,q6,q7,q8,hit,hok⟩:=hs2.tm hlt;subst hao;have hlong:=znL (rec:=zbS f) hlt hm;have hnext:=zmW (rec:=zbS f) hlt hm;have HL1:=zzH hlong;have HL2:=zzH hnext;clear hlong hnext hs2;obtain⟨_,_,_,o3,o4,_,o6,o7,_⟩:=hok;unfold maxLen at o3 o4 o6 o7;generalize l[k]=t at *;have HIT:=zzH hit;clear hit;by_cases c1:m'<t.name.size
     ·have E:Hid (zbS (f+1) l m= -1):=zzH (by rw [HV.out,HG.out,HL1.out (.inl c1)])
      exact zz130
     ·by_cases c2:m'<t.func.size
      ·have E:Hid (zbS (f+1) l m= -1):=zzH (by rw [HV.out,HG.out,HL1.out (.inr (.inl c2))])
       exact zz130
      ·by_cases c3:m'<t.bytes.size
       ·have E:Hid (zbS (f+1) l m= -1):=zzH (by rw [HV.out,HG.out,HL1.out (.inr (.inr c3))])
        exact zz130
       ·have E:=zzH (HL2.out (by omega))
        have hBa:=hB.alloc hB.size (.cells #[.int .i64 t.kind,.int .i64 t.int,.int .i64 t.gen,.string t.name,.string t.func,.int .i64 t.arity,.slice ai t.items.length ci,.string t.bytes,.int .i64 t.bits] 55);have HIT2:=zzH (SlAt.tms HIT.out ((zzR wr.heap.size wr).alloc (zzL _) (.cells #[.int .i64 t.kind,.int .i64 t.int,.int .i64 t.gen,.string t.name,.string t.func,.int .i64 t.arity,.slice ai t.items.length ci,.string t.bytes,.int .i64 t.bits] 55)));have HM2:=HM.out t.items (m'-1-t.name.size/8-t.func.size/8-t.bytes.size/8) (by omega);generalize hn1:zbS f t.items (m'-1-t.name.size/8-t.func.size/8-t.bytes.size/8)=n1 at *;have HN1:=zzH hn1;clear hn1;go_wp2_with fail;refine(IH.out ai ci t.items _ _ HIT2.out (by unfold maxLen;omega) (by omega) (by omega)).mono ?_;rintro e w5 ⟨rfl,hb5⟩;rw [HN1.out];go_wp2_with fail;go_roundw
        case rel=>exact⟨k+1,n1,by omega,by go_num,rfl,by omega,by omega,zzH (by rw [HG.out,E.out]),zd hBa hb5⟩
        case measure=>simp [intOf];omega
    ·have E:Hid (zbS (f+1) l m=m'):=zzH (by rw [HV.out,HG.out,ziz (.inr (by omega))])
     go_wp2;go_ret;exact⟨zcQ E.out.symm,hB⟩
   ·have E:Hid (zbS (f+1) l m=m'):=zzH (by rw [HV.out,HG.out,ziz (.inl (by rw [List.drop_eq_nil_iff];omega))])
    go_wp2;go_ret;exact⟨zcQ E.out.symm,hB⟩
theorem zpF (f:Nat) (ao:zzA) (c:Nat) (l:List Tm) (m:Int) (w:World) (h:SlAt w 9 (TmAt w f) ao l) (hl:l.length<=maxLen) (h0: -1<=m) (h1:m<=1000000):
  Calls Tryz.prog 10 #[.slice ao l.length c,.int .i64 m] w fun e w'=>e= .returned (.bool (decide (zbS f l m<0)))/\Below w.heap.size w w':=by
 have hc:=zkT f ao c l m w h hl h0 h1;have hle:=zfR f l m h0;generalize zbS f l m=n at *;go_in;go_wp2_with fail;refine hc.mono ?_;rintro e w1 ⟨rfl,hb1⟩;go_wp2;go_ret;exact⟨rfl,hb1⟩
end Go.Proofs.YtijekmeocadkeaaGreatDoor
