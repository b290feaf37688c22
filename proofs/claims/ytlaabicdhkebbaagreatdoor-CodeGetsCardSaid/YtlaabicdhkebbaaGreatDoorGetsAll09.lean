/- part 9 -/
import Derived.Test.YtlaabicdhkebbaaGreatDoorGetsAll05
import Derived.Test.YtlaabicdhkebbaaGreatDoorGetsAll06
namespace Go.Proofs.YtlaabicdhkebbaaGreatDoor
open Go.RowKit
set_option linter.unusedVariables false
set_option linter.unusedSimpArgs false
set_option maxRecDepth 100000
set_option maxHeartbeats 80000000
def zfm (w:World) (l:List UInt8) (e:Ending) (w':World):Prop:= ∃v,e= .returned v/\w'.ownsRow w.heap.size 5 1 v l.length (zy l)/\Below w.heap.size w w'
theorem zi0 {w:World} {B B' size n:Nat} {e:TypeId} {v:Value} {xs:List Value} (h:w.ownsRow B e size v n xs) (hb:B'<=B):w.ownsRow B' e size v n xs:=
 ⟨h.1,h.2.elim .inl fun⟨g,cap,cur,h1,h2,h3⟩=>.inr ⟨g,cap,cur,h1,zzY hb h2,h3⟩⟩
theorem zip {w w':World} {B size n:Nat} {e:TypeId} {v:Value} {xs:List Value} (h:w.ownsRow B e size v n xs) (hb:Below w.heap.size w w'):w'.ownsRow B e size v n xs:=
 h.kept (zbf hb none) (by cases hv:v.ownBlock<;>simp)
theorem zkI (k:Nat):(madeCells (Value.int .u8 0).cells (k*1)).toList=zy (List.replicate k 0):=by
 simp [madeCells,zy,Value.cells,Nat.mod_one];exact List.eq_replicate_iff.2 ⟨by simp,by simp⟩
theorem zlg {α:Type} (a x:α) (r:List α): ∀m,(List.replicate (m+1) a++r).set m x=List.replicate m a++x::r
 |0=>rfl
 |m+1=>by
  show(a::(List.replicate (m+1) a++r)).set (m+1) x=a::(List.replicate m a++x::r);rw [List.set_cons_succ,zlg a x r m]
theorem znc (m:Nat) (x:UInt8) (r:List UInt8):(zy (List.replicate (m+1) 0++r)).set m (.int .u8 (x.toNat:Int))=zy (List.replicate m 0++x::r):=by
 unfold zy;rw [List.map_append,List.map_replicate,zlg,List.map_append,List.map_replicate];rfl
theorem zqJ (n:Int) (j:Nat):n/2^(8*j)/256=n/2^(8*(j+1)):=by
 rw [Int.ediv_ediv_of_nonneg (by exact Int.pow_nonneg (by decide)),show 8*(j+1)=8*j+8 by omega,Int.pow_add];rfl
theorem zck (n:Int) (k:Nat) (w:World) (hn:I64 n) (hk:k<=8):
  Calls Tryz.prog 109 #[.int .i64 n,.int .i64 k] w (zfm w (beN k n)):=by
 obtain⟨i0,hi,hz0,hz1,hz2⟩:=info_parts ze2;have HN:Hid (n=n/2^(8*0)):=zzH (by simp);obtain⟨n0,n1⟩:=hn;go_in;go_wp2_with (refine wpList_make_full w rfl (.tmp 7) (.tmp 7) 74 rfl w.heap.size 5 i0 (.int .u8 0) 1 Tryz.underlying74 hi hz0 hz1 .i64 .i64 (k:Int) (k:Int) k rfl rfl rfl rfl (by rw [hz2];omega) (by unfold maxLen;omega) (zzL _) ?_;intro w1 hown hgrow);have HO:Hid (w1.ownsRow w.heap.size 5 1 (.slice (some ⟨w.heap.size,0,none⟩) k k) k (zy (List.replicate k 0++beN 0 n))):=zzH (by rw [zkI]at hown;show World.ownsRow _ _ _ _ _ _ (zy (List.replicate k 0++ []));rw [List.append_nil];exact hown);have HB:Hid (Below w.heap.size w w1):=zzH ((zzR _ _).grown hgrow (zzL _) (fun k hk=>by cases hk));clear hown hgrow;generalize hg:w.heap.size=g at *;have HG:=zzH hg;clear hg;go_wp2_with fail;go_loopw [0,6] (fun nv iv wr=> ∃m j:Nat,m+j=k/\nv= .int .i64 (n/2^(8*j))/\iv= .int .i64 ((m:Int)-1)/\Hid (wr.ownsRow g 5 1 (.slice (some ⟨g,0,none⟩) k k) k (zy (List.replicate m 0++beN j n)))/\Hid (Below g w wr)) (fun _ iv _=>(intOf iv+1).toNat)
 case atStart=>exact⟨k,0,rfl,by rw [<-HN.out],rfl,HO,HB⟩
 case round=>
  obtain⟨m,j,hmj,rfl,rfl,HOk,HBk⟩:=hrel;rename World=>wr
  cases m with
  |succ m=>
   have e1:((m+1:Nat):Int)-1=(m:Int):=by omega
   rw [e1];have HD:=zzH (zqJ n j);have HX:Hid (n/2^(8*j)%256=((UInt8.ofNat (n/2^(8*j)%256).toNat).toNat:Int)):=zzH (by rw [UInt8.toNat_ofNat'];omega)
   have hd0: -9223372036854775808<=n/2^(8*j):=by
    have h9:(0:Int)<2^(8*j):=Int.pow_pos (by decide);rcases Int.le_total 0 n with h|h
    ·exact Int.le_trans (by decide) (Int.ediv_nonneg h (Int.le_of_lt h9))
    ·exact Int.le_trans n0 (Int.le_ediv_of_mul_le h9 (by have:=Int.mul_le_mul_of_nonpos_left h (show(1:Int)<=2^(8*j)by omega);omega))
   have hd1:n/2^(8*j)<=9223372036854775807:=by
    have h9:(0:Int)<2^(8*j):=Int.pow_pos (by decide);rcases Int.le_total 0 n with h|h
    ·exact Int.le_trans (Int.ediv_le_self _ h) n1
    ·exact Int.le_trans (Int.ediv_le_ediv h9 h) (by rw [Int.zero_ediv];decide)
   have hca:wr.cell? ⟨g,m,none⟩=some (.int .u8 0):=by
    rw [HOk.out.cellAt m (by omega)];unfold zy;rw [List.map_append,List.getElem?_append_left (by simp),List.getElem?_map,List.getElem?_replicate,if_pos (by omega)];rfl
   have hfa:=HOk.out.frozenAt m;have hst:=HOk.out.stored m (.int .u8 ((UInt8.ofNat (n/2^(8*j)%256).toNat).toNat:Int));rw [znc]at hst;have HO2:Hid (∀v,v=Value.int .u8 ((UInt8.ofNat (n/2^(8*j)%256).toNat).toNat:Int)->(wr.setCell ⟨g,m,none⟩ v).ownsRow g 5 1 (.slice (some ⟨g,0,none⟩) k k) k (zy (List.replicate m 0++beN (j+1) n))):=zzH (fun v hv=>by rw [hv];exact hst.1);have HB2:Hid (∀v,Below g w (wr.setCell ⟨g,m,none⟩ v)):=zzH (fun v=>HBk.out.setCell (p:=⟨g,m,none⟩) (zzL _) _);have hmk:(m:Int)<(k:Int):=by omega
   have hm0:(0:Int)<=(m:Int):=by omega
   clear hst e1;generalize n/2^(8*j)=q at *;go_wp2_with fail;go_roundw
   case rel=>exact⟨m,j+1,by omega,by rw [<-HD.out],rfl,zzH (HO2.out _ (by rw [<-HX.out])),zzH (HB2.out _)⟩
   case measure=>simp [intOf]
  |zero=>
   obtain rfl:j=k:=by omega
   have HF:Hid (wr.ownsRow g 5 1 (.slice (some ⟨g,0,none⟩) j j) (beN j n).length (zy (beN j n))):=zzH (by rw [zk];exact HOk.out);go_wp2_with fail;go_ret;exact⟨_,rfl,by rw [HG.out];exact HF.out,by rw [HG.out];exact HBk.out⟩
theorem ze0 {w:World} {B:Nat} (cs:Array Value) (l:List UInt8) (n:Nat) (hb:B<=w.heap.size) (hn:n=l.length) (hcs:cs.toList=zy l) (hm:n<=1000):(w.alloc (.cells cs 5)).ownsRow B 5 1 (.slice (some ⟨w.heap.size,0,none⟩) n n) n (zy l):=by
 have h:=World.ownsRow_lit (base:=B) (size:=1) (e:=5) w cs n hb (by unfold maxLen;omega) (by have:=congrArg List.length hcs;rw [zbr,Array.length_toList]at this;omega)
 rwa [hcs]at h
theorem zdX (s:ByteArray) (w:World) (hs:s.size<=32):
  Calls Tryz.prog 108 #[.string s] w (zfm w (zN s)):=by
 obtain⟨i0,hi,hz0,hz1,hz2⟩:=info_parts ze2;have HA:Hid (zy (zN s)=zy [119,UInt8.ofNat s.size]++Lib.strCells s/\(zN s).length=2+s.size):=zzH ⟨by unfold zN zy Lib.strCells;simp,by rw [zn];omega⟩;have hown:=ze0 (w:=w) (B:=w.heap.size) #[.int .u8 119,.int .u8 s.size] [119,UInt8.ofNat s.size] 2 (zzL _) rfl (by simp [zy];omega) (by omega);have hb:Below w.heap.size w (w.alloc (.cells #[.int .u8 119,.int .u8 s.size] 5)):=(zzR _ _).alloc (zzL _) _;generalize zN s=T at *;go_in;go_wp2_with (at_builtin;refine Lib.wpList_append_own_string _ rfl (.tmp 6) (.tmp 7) 74 9 rfl w.heap.size 5 i0 Tryz.underlying74 Tryz.underlying9 hi hz0 hz1 hz2 _ 2 (zy [119,UInt8.ofNat s.size]) rfl hown s rfl (by unfold maxLen;omega) (by omega) (by simp) ?_);intro v' w2 hown' hgrow hnil;have HF:Hid (w2.ownsRow w.heap.size 5 1 v' T.length (zy T)/\Below w.heap.size w w2):=zzH ⟨by rw [HA.out.1,HA.out.2];exact hown',hb.grown hgrow (by simp) (fun k hk=>(hown.lt k hk).1)⟩;clear hown hown' hgrow hnil hb;go_wp2_with fail;go_ret;exact⟨_,rfl,HF.out⟩
theorem zF (a b:List UInt8):(⟨a.toArray⟩:ByteArray)++⟨b.toArray⟩=⟨(a++b).toArray⟩:=by
 apply ByteArray.ext;rw [ByteArray.data_append];simp
theorem bsz (l:List UInt8):(⟨l.toArray⟩:ByteArray).size=l.length:=by show l.toArray.size=_;simp
theorem ziG (f n:Nat):zce (f+1) n=if n<128 then [UInt8.ofNat n]else UInt8.ofNat (n%128+128)::zce f (n/128):=rfl
theorem zhX: ∀(f n:Nat),n<128^(f+1)->zce (f+2) n=zce (f+1) n
 |0,n,h=>by
  have:n<128:=by simpa using h
  show(if n<128 then [UInt8.ofNat n]else UInt8.ofNat (n%128+128)::zce 1 (n/128))=(if n<128 then [UInt8.ofNat n]else UInt8.ofNat (n%128+128)::zce 0 (n/128));rw [if_pos this,if_pos this]
 |f+1,n,h=>by
  show(if n<128 then [UInt8.ofNat n]else UInt8.ofNat (n%128+128)::zce (f+2) (n/128))=(if n<128 then [UInt8.ofNat n]else UInt8.ofNat (n%128+128)::zce (f+1) (n/128));rw [zhX f (n/128) (by rw [Nat.pow_succ]at h;omega)]
theorem zou (n:Nat) (h: ¬n<128) (h2:n<=9223372036854775807):zg n=UInt8.ofNat (n%128+128)::zg (n/128):=by
 show zce (9+1) n=_::zce 10 (n/128);rw [ziG,if_neg h,zhX 8 (n/128) (by omega)]
theorem zfP {w:World} {g cap:Nat} (l:List UInt8) (h: ∀j u,(zy l)[j]?=some u->w.cell? ((⟨g,0,none⟩:Addr).add j)=some u):(convert 74 9 (.slice (some ⟨g,0,none⟩) l.length cap)).run Tryz.prog w= .ok (.string ⟨l.toArray⟩) w:=
 run_convert_bytes_back (P:=Tryz.prog) w 74 9 5 ⟨g,0,none⟩ cap l Tryz.underlying74 Tryz.underlying5 Tryz.underlying9 (fun j hj=>h j _ (by simp [zy,zzq8 hj]))
theorem zhD (w:World) (x:UInt8) (T:TypeId):(convert 74 9 (.slice (some ⟨w.heap.size,0,none⟩) 1 1)).run Tryz.prog (w.alloc (.cells #[.int .u8 (x.toNat:Int)] T))= .ok (.string ⟨[x].toArray⟩) (w.alloc (.cells #[.int .u8 (x.toNat:Int)] T)):=
 zfP [x] (zhR [x] #[.int .u8 (x.toNat:Int)] rfl)
theorem zcV (k:Nat): ∀(n:Nat) (w:World),n<128^(k+1)->n<=9223372036854775807 ->
  Calls Tryz.prog 52 #[.int .i64 n] w fun e w'=>e= .returned (.string ⟨(zg n).toArray⟩)/\Below w.heap.size w w':=by
 induction k with
 |zero=>
  intro n w h h2;have h3:n<128:=by simpa using h
  have E:Hid (zg n= [UInt8.ofNat n]):=zzH (by show zce (9+1) n=_;rw [ziG,if_pos h3]);have hb:Below w.heap.size w (w.alloc (.cells #[.int .u8 n] 5)):=(zzR _ _).alloc (zzL _) _;have HB:=zzH hb;have hcv:=zhD w (UInt8.ofNat n) 5;rw [show(((UInt8.ofNat n).toNat:Nat):Int)=(n:Int)by rw [UInt8.toNat_ofNat'];omega,<-E.out]at hcv;clear h hb;generalize zg n=V at *;go_in;go_wp2_with fail;go_ret;exact⟨rfl,HB.out⟩
 |succ k ih=>
  intro n w h h2;by_cases h3:n<128
  ·have E:Hid (zg n= [UInt8.ofNat n]):=zzH (by show zce (9+1) n=_;rw [ziG,if_pos h3])
   have hb:Below w.heap.size w (w.alloc (.cells #[.int .u8 n] 5)):=(zzR _ _).alloc (zzL _) _;have HB:=zzH hb;have hcv:=zhD w (UInt8.ofNat n) 5;rw [show(((UInt8.ofNat n).toNat:Nat):Int)=(n:Int)by rw [UInt8.toNat_ofNat'];omega,<-E.out]at hcv;clear h hb ih;generalize zg n=V at *;go_in;go_wp2_with fail;go_ret;exact⟨rfl,HB.out⟩
  ·have E:Hid (zg n=UInt8.ofNat (n%128+128)::zg (n/128)):=zzH (zou n h3 h2)
   have hc:=fun wx=>ih (n/128) wx (by rw [Nat.pow_succ]at h;omega) (by omega)
   have h4:128<=n:=by omega
   have HC:=zzH hc;clear ih h h3 hc;have HL2:Hid ((zg (n/128)).length<=10):=zzH (zE _);generalize zg n=V at *;generalize zg (n/128)=V2 at *
   have hx:IntKind.u8.wrap (IntKind.i64.wrap ((n:Int).tmod 128+128))=(((UInt8.ofNat (n%128+128)).toNat:Nat):Int):=by
    rw [Int.tmod_eq_emod_of_nonneg (by omega),zzq3,IntKind.wrap_u8,UInt8.toNat_ofNat'];omega
   have hw:IntKind.i64.wrap ((n:Int)/128)=((n/128:Nat):Int):=by rw [zzq3];omega
   generalize UInt8.ofNat (n%128+128)=x at *;have hadd:=fun wx=>run_string_add_sum (P:=Tryz.prog) wx ⟨[x].toArray⟩ ⟨V2.toArray⟩ (by rw [bsz,bsz];have:=HL2.out;simp;omega)
   have hb:Below w.heap.size w ((w.alloc (.cells #[.int .u8 (x.toNat:Int)] 5)).drew):=((zzR _ _).alloc (zzL _) _).drew;have HB:=zzH hb;have hcv:(convert 74 9 (.slice (some ⟨w.heap.size,0,none⟩) 1 1)).run Tryz.prog (w.alloc (.cells #[.int .u8 (x.toNat:Int)] 5)).drew= .ok (.string ⟨[x].toArray⟩) (w.alloc (.cells #[.int .u8 (x.toNat:Int)] 5)).drew:=zfP [x] (zhR (w:=w) (T:=5) [x] #[.int .u8 (x.toNat:Int)] rfl);have HR:Hid ((w.alloc (.cells #[.int .u8 (x.toNat:Int)] 5)).drew.heap[w.heap.size]?=some (.cells #[.int .u8 (x.toNat:Int)] 5 (0,0))):=zzH (heap_alloc_new _ _)
   have HCAT:Hid ((⟨[x].toArray⟩:ByteArray)++⟨V2.toArray⟩=⟨V.toArray⟩):=zzH (by rw [zF,E.out];rfl);clear hb;go_in;go_wp2_with fail;go_region_with (go_at_call 52;refine(HC.out _).mono ?_;rintro e w1 ⟨rfl,hb1⟩;(first|(have hcA:(convert 74 9 (.slice (some ⟨w.heap.size,0,none⟩) 1 1)).run Tryz.prog w1= .ok (.string ⟨[x].toArray⟩) w1:=zfP (cap:=1) [x] (zbM ((hb1.block _ (zc HR.out)).trans HR.out) rfl);have HBA:=zzH (HB.out.trans (hb1.mono HB.out.size)))|have HBC:Hid (Below w.heap.size w w1):=zzH ((zzR _ _).drew.trans hb1));have hcB:=zhD w1 x 5;clear hb1)
   all_goals
    go_wp2_with fail;go_ret;exact⟨congrArg (fun s=>Ending.returned (.string s)) HCAT.out,by first|exact HBA.out|exact HBC.out.alloc HBC.out.size _⟩
theorem zbN (n:Int) (w:World) (h0:0<=n) (h:n<=9223372036854775807):
  Calls Tryz.prog 52 #[.int .i64 n] w fun e w'=>e= .returned (.string ⟨(zg n.toNat).toArray⟩)/\Below w.heap.size w w':=by
 obtain⟨m,rfl⟩:=Int.eq_ofNat_of_zero_le h0;rw [zzq11];exact zcV 9 m w (by omega) (by omega)
theorem zrU (a:List UInt8) (s:ByteArray):(⟨a.toArray⟩:ByteArray)++s=⟨(a++s.data.toList).toArray⟩:=by
 have:s=⟨s.data.toList.toArray⟩:=by simp
 conv=>lhs;rw [this]
 exact zF _ _
theorem zfe (s:ByteArray) (w:World) (hs:s.size<=1152921504606846976):
  Calls Tryz.prog 51 #[.string s] w fun e w'=>e= .returned (.string ⟨(zJ s).toArray⟩)/\Below w.heap.size w w':=by
 have hv:=zcV 9 s.size w (by omega) (by omega);have HCAT:Hid ((⟨(zg s.size).toArray⟩:ByteArray)++s=⟨(zJ s).toArray⟩):=zzH (zrU _ _);have HV:=zzH hv;have hl:=zE s.size;have hadd:=fun wx=>run_string_add_sum (P:=Tryz.prog) wx ⟨(zg s.size).toArray⟩ s (by rw [bsz];omega)
 clear hv hl;generalize zg s.size=V at *;generalize zJ s=T at *;go_in;go_wp2_with fail;refine HV.out.mono ?_;rintro e w1 ⟨rfl,hb⟩;go_wp2_with fail;go_ret;exact⟨congrArg (fun s=>Ending.returned (.string s)) HCAT.out,hb⟩
theorem zfz (a:RArg) (w:World) (ha:WArg a):
  Calls Tryz.prog 81 #[.agg #[.int .i64 a.kind,.int .i64 a.n]] w fun e w'=>e= .returned (.string ⟨(zb0 a).toArray⟩)/\Below w.heap.size w w':=by
 obtain⟨k,n⟩:=a;obtain⟨a1,a2,a3,a4⟩:=ha;simp only at a1 a2 a3 a4;have hno:=fun wx=>zgX ⟨k,n⟩ wx
 have hbx:=heap_alloc_new w (.cells #[.int .i64 k,.int .i64 n] 59);have hba:Below w.heap.size w (w.alloc (.cells #[.int .i64 k,.int .i64 n] 59)):=(zzR _ _).alloc (zzL _) _;have HAW:Hid (zb0 ⟨k,n⟩=zg (4*n+k).toNat):=zzH rfl
 have HN:Hid (zdP ⟨k,n⟩=true->(4*n+k).toNat=0):=zzH (fun h=>by
  unfold zdP at h;rw [Bool.and_eq_true,decide_eq_true_eq,decide_eq_true_eq]at h;simp only at h;omega)
 have HV0:=zzH (fun wx=>zbN 0 wx (by omega) (by omega));have HV1:=zzH (fun wx=>zbN (4*n+k) wx (by omega) (by omega));have HBA:=zzH hba;have HBX:=zzH hbx;have HNO:=zzH hno;clear hba hbx hno;generalize zdP ⟨k,n⟩=nz at *;generalize zb0 ⟨k,n⟩=AW at *;go_in;go_upto_region 1 with fail;have hb1:=HBX.out;generalize w.alloc (.cells #[.int .i64 k,.int .i64 n] 59)=W at *;generalize hBz:w.heap.size=B at *;have HBZ:=zzH hBz;clear hBz;have c0:W.cell? ⟨B,0,none⟩=some (.int .i64 k):=by rw [zzq2 _ _ _ _ _ _ hb1];rfl
 have c1:W.cell? ⟨B,1,none⟩=some (.int .i64 n):=by rw [zzq2 _ _ _ _ _ _ hb1];rfl
 have hlx:=zc hb1;clear hb1
 cases nz with
 |true=>
  have E:Hid (AW=zg (0:Int).toNat):=zzH (by rw [HAW.out,HN.out rfl];rfl);clear HN;go_wp2_with fail;refine(HNO.out _).mono ?_;rintro e w1 ⟨rfl,hb⟩;go_wp2_with fail;refine(HV0.out _).mono ?_;rintro e w2 ⟨rfl,hb2⟩;have HF:Hid (Below B w w2):=zzH (HBA.out.trans ((ze hb hb2).mono (by have:=HBA.out.size;have:=HBZ.out;omega)));clear hb hb2;go_wp2_with fail;go_ret;exact⟨congrArg (fun l:List UInt8=>Ending.returned (.string ⟨l.toArray⟩)) E.out.symm,by rw [HBZ.out];exact HF.out⟩
 |false=>
  go_wp2_with fail;refine(HNO.out _).mono ?_;rintro e w1 ⟨rfl,hb⟩;have hb1:=(hb.block B hlx).trans HBX.out;have HB1:=zzH hb;clear c0 c1 hlx;have c0:w1.cell? ⟨B,0,none⟩=some (.int .i64 k):=by rw [zzq2 _ _ _ _ _ _ hb1];rfl
  have c1:w1.cell? ⟨B,1,none⟩=some (.int .i64 n):=by rw [zzq2 _ _ _ _ _ _ hb1];rfl
  have hlx:=zc hb1;clear hb1 hb;go_wp2_with fail;refine(HV1.out _).mono ?_;rintro e w2 ⟨rfl,hb2⟩;have HF:Hid (Below B w w2):=zzH (HBA.out.trans ((ze HB1.out hb2).mono (by have:=HBA.out.size;have:=HBZ.out;omega)));clear hb2;go_wp2_with fail;go_ret;exact⟨congrArg (fun l:List UInt8=>Ending.returned (.string ⟨l.toArray⟩)) HAW.out.symm,by rw [HBZ.out];exact HF.out⟩
theorem zhT (b:Bool) (w:World):
  Calls Tryz.prog 54 #[.bool b] w fun e w'=>e= .returned (.string ⟨(zdB b).toArray⟩)/\Below w.heap.size w w':=by
 have HV0:=zzH (zbN 0 w (by omega) (by omega));have HV1:=zzH (zbN 1 w (by omega) (by omega))
 cases b with
 |true=>
  go_in;go_wp2_with fail;refine HV1.out.mono ?_;rintro e w1 ⟨rfl,hb⟩;go_wp2_with fail;go_ret;exact⟨rfl,hb⟩
 |false=>
  go_in;go_wp2_with fail;refine HV0.out.mono ?_;rintro e w1 ⟨rfl,hb⟩;go_wp2_with fail;go_ret;exact⟨rfl,hb⟩
def zkB (K:Tm->Nat) (T:Nat->List UInt8->Option ((Tm × Nat) × List UInt8)):Prop:= ∀p l t p' l',T p l=some ((t,p'),l')->p'=p+K t
theorem zjY {K:Tm->Nat} {T:Nat->List UInt8->Option ((Tm × Nat) × List UInt8)} (H:zkB K T): ∀(n p:Nat) (l:List UInt8) (ts:List Tm) (p':Nat) (l':List UInt8),zcb T n p l=some ((ts,p'),l')->p'=p+(ts.map K).sum
 |0,p,l,ts,p',l',h=>by
  simp only [zcb,Option.some.injEq,Prod.mk.injEq]at h;obtain⟨⟨rfl,rfl⟩,rfl⟩:=h
  rfl
 |n+1,p,l,ts,p',l',h=>by
  unfold zcb at h;obtain⟨x,hx,h⟩:=zzO.1 h;obtain⟨y,hy,h⟩:=zzO.1 h;simp only [zzX1]at h;obtain⟨⟨rfl,rfl⟩,rfl⟩:=h;have e1:=H p l x.1.1 x.1.2 x.2 hx;have e2:=zjY H n x.1.2 x.2 y.1.1 y.1.2 y.2 hy;rw [List.map_cons,List.sum_cons];omega
theorem zkc {K:Tm->Nat} {T:Nat->List UInt8->Option ((Tm × Nat) × List UInt8)} (H:zkB K T) {n p:Nat} {l:List UInt8} {x:(List Tm × Nat) × List UInt8} (h:zca T n p l=some x):x.1.2=p+(x.1.1.map K).sum:=by
 unfold zca at h;split at h
 ·exact zjY H n p l x.1.1 x.1.2 x.2 h
 ·exact zz69
theorem zsi {K:Tm->Nat} {T:Nat->List UInt8->Option ((Tm × Nat) × List UInt8)} (H:zkB K T) {p:Nat} {l:List UInt8} {t:Tm} {p':Nat} {l':List UInt8} (h:zc3 T p l=some ((t,p'),l')):p'=p+(t.items.map K).sum:=by
 unfold zc3 zeF zd7 at h;obtain⟨x,hx,h⟩:=zzO.1 h;split at h
 ·obtain⟨a,ha,h⟩:=zzO.1 h
  obtain⟨b,hb,h⟩:=zzO.1 h;obtain⟨c,hc,h⟩:=zzO.1 h;split at h
  ·obtain⟨d,hd,h⟩:=zzO.1 h
   simp only [zzX1]at h;obtain⟨⟨rfl,rfl⟩,rfl⟩:=h
   rfl
  ·exact zz69
 split at h
 ·obtain⟨a,ha,h⟩:=zzO.1 h
  obtain⟨b,hb,h⟩:=zzO.1 h;obtain⟨c,hc,h⟩:=zzO.1 h;obtain⟨d,hd,h⟩:=zzO.1 h;obtain⟨e,he,h⟩:=zzO.1 h;obtain⟨q,hq,h⟩:=zzO.1 h;simp only [zzX1]at h;obtain⟨⟨rfl,rfl⟩,rfl⟩:=h;exact zkc H hq
 ·exact zz69
theorem zsb {K:Tm->Nat} {T:Nat->List UInt8->Option ((Tm × Nat) × List UInt8)} (H:zkB K T) {p tag:Nat} {l0 l:List UInt8} {t:Tm} {p':Nat} {l':List UInt8} (h:zcZ T p l0 tag l=some ((t,p'),l')):p'=p+(t.items.map K).sum:=by
 unfold zcZ at h;by_cases c:tag=97
 ·exact zz102
 rw [if_neg c]at h;clear c;by_cases c:tag=98
 ·rw [if_pos c]at h
  obtain⟨x,hx,h⟩:=zzO.1 h;split at h
  ·exact zz104
  ·exact zz69
 rw [if_neg c]at h;clear c;by_cases c:tag=110
 ·exact zz102
 rw [if_neg c]at h;clear c;by_cases c:tag=119
 ·exact zz101
 rw [if_neg c]at h;clear c;by_cases c:tag=104
 ·exact zz100
 rw [if_neg c]at h;clear c;by_cases c:tag=106
 ·rw [if_pos c]at h
  exact zz104
 rw [if_neg c]at h;clear c;by_cases c:tag=108
 ·exact zz100
 rw [if_neg c]at h;clear c;by_cases c:tag=109
 ·exact zz101
 rw [if_neg c]at h;clear c;by_cases c:tag=77
 ·rw [if_pos c]at h
  obtain⟨x,hx,h⟩:=zzO.1 h;obtain⟨y,hy,h⟩:=zzO.1 h;split at h
  ·obtain⟨z,hz,h⟩:=zzO.1 h
   exact zz104
  ·exact zz69
 rw [if_neg c]at h;clear c;by_cases c:tag=88
 ·rw [if_pos c]at h
  obtain⟨x,hx,h⟩:=zzO.1 h;obtain⟨y,hy,h⟩:=zzO.1 h;obtain⟨z,hz,h⟩:=zzO.1 h;split at h
  ·exact zz103
  ·exact zz69
 rw [if_neg c]at h;clear c;by_cases c:tag=90
 ·rw [if_pos c]at h
  obtain⟨x,hx,h⟩:=zzO.1 h;split at h
  ·obtain⟨y,hy,h⟩:=zzO.1 h
   obtain⟨z,hz,h⟩:=zzO.1 h;exact zz103
  ·exact zz69
 rw [if_neg c]at h;clear c;exact zsi H h
theorem zle: ∀f,zkB (zW f) (zA f)
 |0,p,l,t,p',l',h=>absurd h (by simp [zA])
 |f+1,p,l,t,p',l',h=>by
  unfold zA at h;split at h
  ·obtain⟨x,hx,h⟩:=zzO.1 h
   have:=zsb (zle f) h;unfold zW;omega
  ·exact zz69
theorem zlj {f:Nat}: ∀(ts:List Tm),(∀x∈ts,zR f x+1<=301*zW f x)->zcw (ts.map (zR f))+ts.length<=301*(ts.map (zW f)).sum
 |[],_=>zzL _
 |x::ts,h=>by
  have h1:=h x (List.mem_cons_self ..);have h2:=zlj ts fun y hy=>h y (List.mem_cons_of_mem _ hy)
  rw [List.map_cons,List.map_cons,List.sum_cons,zzq13];show zR f x+zcw (ts.map (zR f))+_<=_;omega
theorem zf5: ∀(f:Nat) (t:Tm),OkF f t->zR f t+1<=301*zW f t
 |0,t,h=>h.elim
 |f+1,t,h=>by
  have h1:=zlj t.items fun x hx=>zf5 f x (h.2 x hx)
  show 300+t.items.length+zcw (t.items.map (zR f))+1<=301*(1+(t.items.map (zW f)).sum);omega
structure RS where
 l:List UInt8
 left:Int
 bad:Bool
def RS.fail (σ:RS):RS:=⟨σ.l,σ.left,true⟩
def zbk (n:Nat) (σ:RS):ByteArray × RS:=if σ.bad=true∨σ.l.length<n then(⟨#[]⟩,σ.fail)else(⟨(σ.l.take n).toArray⟩,⟨σ.l.drop n,σ.left,σ.bad⟩)
def zi (k:Nat) (σ:RS):Nat × RS:=(beV (zbk k σ).1.data.toList,(zbk k σ).2)
def zbi (σ:RS):ByteArray × RS:=
 let a:=zi 1 σ
 let b:=zi 1 (if a.1=119 then a.2 else a.2.fail)
 zbk b.1 b.2
def zeU (sg:Nat) (bad:Bool) (b:ByteArray):Int:=
 if bad=true then 0 else if sg=1 then wrap64 (IntKind.u64.wrap (-(leV b.data.toList:Int)))else wrap64 (leV b.data.toList:Int)
def zdU (σ:RS):Int × RS:=
 let n:=zi 1 σ
 let s:=zi 1 n.2
 let b:=zbk n.1 s.2
 let τ:=if 8<n.1∨1<s.1 then b.2.fail else b.2
 (zeU s.1 τ.bad b.1,τ)
def zbn (T:RS->Tm × RS):Nat->RS->List Tm × RS
 |0,σ=>([],σ)
 |n+1,σ=>if σ.bad=true then([],σ)else
  let x:=T σ
  let y:=zbn T n x.2
  (x.1::y.1,y.2)
def zfZ (T:RS->Tm × RS) (σ0:RS) (tag:Nat) (σ:RS):Tm × RS:=
 if tag=97 then let x:=zi 1 σ;(tmK 1 (int:=x.1),x.2)
 else if tag=98 then let x:=zi 4 σ;(tmK 1 (int:=zbZ x.1),x.2)
 else if tag=110 then let x:=zdU σ;(tmK 1 (int:=x.1),x.2)
 else if tag=119 then let x:=zbi σ0;(tmK 2 (name:=x.1),x.2)
 else if tag=104 then let n:=zi 1 σ;let y:=zbn T n.1 n.2;(tmK 7 (items:=y.1),y.2)
 else if tag=106 then(tmK 8,σ)
 else if tag=108 then let n:=zi 4 σ;let y:=zbn T (n.1+1) n.2;(tmK 9 (items:=y.1),y.2)
 else if tag=109 then let n:=zi 4 σ;let b:=zbk n.1 n.2;(tmK 10 (bytes:=b.1) (bits:=8*(b.1.size:Int)),b.2)
 else if tag=77 then let n:=zi 4 σ;let m:=zi 1 n.2;let b:=zbk n.1 m.2;(tmK 10 (bytes:=b.1) (bits:=8*(b.1.size:Int)-8+m.1),b.2)
 else if tag=88 then let a:=zbi σ;let b:=zi 4 a.2;let c:=zi 4 b.2;let d:=zi 4 c.2;(tmK 6 (int:=b.1) (gen:=d.1) (name:=a.1),d.2)
 else if tag=90 then let z:=zi 2 σ;let a:=zbi z.2;let b:=zi 4 a.2;let c:=zi 4 b.2;(tmK 3 (int:=c.1) (gen:=b.1) (name:=a.1),c.2)
 else if tag=113 then let a:=zbi σ;let b:=zbi a.2;let c:=zi 1 b.2;let d:=zi 1 (if c.1=97 then c.2 else c.2.fail);(tmK 5 (name:=a.1) (func:=b.1) (arity:=d.1),d.2)
 else if tag=112 then let a:=zi 1 σ;let b:=zi 2 a.2;let n:=zi 1 b.2;let m:=zbi n.2;let g:=zi 4 m.2;let y:=zbn T n.1 g.2;(tmK 4 (int:=b.1) (gen:=g.1) (name:=m.1) (arity:=a.1) (items:=y.1),y.2)
 else(tmK 0,σ.fail)
def zt:Nat->RS->Tm × RS
 |0,σ=>(tmK 0,⟨σ.l,σ.left-1,true⟩)
 |f+1,σ=>
  let σ0:RS:=⟨σ.l,σ.left-1,σ.bad||decide (σ.left-1<0)⟩
  let x:=zi 1 σ0
  zfZ (zt f) σ0 x.1 x.2
theorem zfV {n:Nat} {l l':List UInt8} {b:ByteArray} (left:Int) (h:zci n l=some (b,l')):zbk n ⟨l,left,false⟩=(b,⟨l',left,false⟩):=by
 unfold zci at h;split at h
 ·next c=>
  simp only [zzX1]at h;obtain⟨rfl,rfl⟩:=h;unfold zbk;rw [if_neg (by simp;omega)]
 ·exact zz69
theorem zdf {k n:Nat} {l l':List UInt8} (left:Int) (h:zbF k l=some (n,l')):zi k ⟨l,left,false⟩=(n,⟨l',left,false⟩):=by
 unfold zbF at h;split at h
 ·next c=>
  simp only [zzX1]at h;obtain⟨rfl,rfl⟩:=h;unfold zi;rw [zfV left (show zci k l=some (⟨(l.take k).toArray⟩,l.drop k)from if_pos c)]
 ·exact zz69
theorem zc1 {n:Nat} {l l':List UInt8} (left:Int) (h:zK l=some (n,l')):zi 1 ⟨l,left,false⟩=(n,⟨l',left,false⟩):=by
 refine zdf left ?_
 cases l with
 |nil=>exact absurd h (by simp [zK])
 |cons c l=>
  simp only [zK,Option.some.injEq,Prod.mk.injEq]at h;obtain⟨rfl,rfl⟩:=h;unfold zbF;rw [if_pos (by simp)];simp [beV]
theorem zeZ {l l':List UInt8} {b:ByteArray} (left:Int) (h:zcc l=some (b,l')):zbi ⟨l,left,false⟩=(b,⟨l',left,false⟩):=by
 unfold zcc at h;obtain⟨x,hx,h⟩:=zzO.1 h;split at h
 ·next c=>
  obtain⟨y,hy,h⟩:=zzO.1 h;unfold zbi;simp only [zc1 (n:=x.1) (l':=x.2) left hx,c,if_true,zc1 (n:=y.1) (l':=y.2) left hy];exact zfV left h
 ·exact zz69
theorem zoQ {l l':List UInt8} {n:Int} (left:Int) (h:zdp l=some (n,l')):zdU ⟨l,left,false⟩=(n,⟨l',left,false⟩):=by
 unfold zdp at h;obtain⟨x,hx,h⟩:=zzO.1 h;obtain⟨y,hy,h⟩:=zzO.1 h;split at h
 ·next c=>
  obtain⟨z,hz,h⟩:=zzO.1 h;obtain⟨v,hv,h⟩:=zzO.1 h;simp only [zzX1]at h;obtain⟨rfl,rfl⟩:=h;unfold zdU;simp only [zc1 (n:=x.1) (l':=x.2) left hx,zc1 (n:=y.1) (l':=y.2) left hy,zfV (b:=z.1) (l':=z.2) left hz];rw [if_neg (show¬(8<x.1∨1<y.1)by omega)];refine Prod.ext ?_ rfl;show zeU y.1 false z.1=v;unfold zeU;rw [if_neg (by simp)];unfold zd9 at hv;split at hv
  ·exact absurd hv (by simp)
  split at hv
  ·next c1=>
   split at hv
   ·next c2=>
    simp only [Option.some.injEq]at hv;rw [if_pos c1,zqH _ c2.1 (by omega)];exact hv
   ·exact absurd hv (by simp)
  ·next c1=>
   split at hv
   ·next c2=>
    simp only [Option.some.injEq]at hv;rw [if_neg c1,<-hv];unfold wrap64;omega
   ·exact absurd hv (by simp)
 ·exact zz69
section
variable {T:Nat->List UInt8->Option ((Tm × Nat) × List UInt8)} {TR:RS->Tm × RS} (H: ∀p l t p' l',T p l=some ((t,p'),l')->TR ⟨l,2000-(p:Int),false⟩=(t,⟨l',2000-(p':Int),false⟩))
include H
theorem zjq: ∀(n p:Nat) (l:List UInt8) (ts:List Tm) (p':Nat) (l':List UInt8),zcb T n p l=some ((ts,p'),l')->zbn TR n ⟨l,2000-(p:Int),false⟩=(ts,⟨l',2000-(p':Int),false⟩)
 |0,p,l,ts,p',l',h=>by
  simp only [zcb,Option.some.injEq,Prod.mk.injEq]at h;obtain⟨⟨rfl,rfl⟩,rfl⟩:=h
  rfl
 |n+1,p,l,ts,p',l',h=>by
  unfold zcb at h;obtain⟨x,hx,h⟩:=zzO.1 h;obtain⟨y,hy,h⟩:=zzO.1 h;simp only [zzX1]at h;obtain⟨⟨rfl,rfl⟩,rfl⟩:=h;unfold zbn;rw [if_neg (by simp)];simp only [H p l x.1.1 x.1.2 x.2 hx,zjq n x.1.2 x.2 y.1.1 y.1.2 y.2 hy]
theorem zgv {n p:Nat} {l:List UInt8} {x:(List Tm × Nat) × List UInt8} (h:zca T n p l=some x):zbn TR n ⟨l,2000-(p:Int),false⟩=(x.1.1,⟨x.2,2000-(x.1.2:Int),false⟩):=by
 unfold zca at h;split at h
 ·exact zjq H n p l x.1.1 x.1.2 x.2 h
 ·exact zz69
theorem zrc {p tag:Nat} {l0 l:List UInt8} {t:Tm} {p':Nat} {l':List UInt8} (hb:zK l0=some (tag,l)) (h:zcZ T p l0 tag l=some ((t,p'),l')):
  zfZ TR ⟨l0,2000-(p:Int),false⟩ tag ⟨l,2000-(p:Int),false⟩=(t,⟨l',2000-(p':Int),false⟩):=by
 unfold zcZ at h;unfold zfZ;by_cases c:tag=97
 ·rw [if_pos c]at h
  rw [if_pos c];obtain⟨x,hx,h⟩:=zzO.1 h;simp only [zzX1]at h;obtain⟨⟨rfl,rfl⟩,rfl⟩:=h;simp only [zc1 (n:=x.1) (l':=x.2) _ hx]
 rw [if_neg c]at h;rw [if_neg c];clear c;by_cases c:tag=98
 ·rw [if_pos c]at h
  rw [if_pos c];obtain⟨x,hx,h⟩:=zzO.1 h;split at h
  rotate_left
  ·exact zz69
  rename_i cc;simp only [zzX1]at h;obtain⟨⟨rfl,rfl⟩,rfl⟩:=h;simp only [zdf (n:=x.1) (l':=x.2) _ hx]
 rw [if_neg c]at h;rw [if_neg c];clear c;by_cases c:tag=110
 ·rw [if_pos c]at h
  rw [if_pos c];obtain⟨x,hx,h⟩:=zzO.1 h;simp only [zzX1]at h;obtain⟨⟨rfl,rfl⟩,rfl⟩:=h;simp only [zoQ (n:=x.1) (l':=x.2) _ hx]
 rw [if_neg c]at h;rw [if_neg c];clear c;by_cases c:tag=119
 ·rw [if_pos c]at h
  rw [if_pos c];obtain⟨x,hx,h⟩:=zzO.1 h;obtain⟨y,hy,h⟩:=zzO.1 h;simp only [zzX1]at h;obtain⟨⟨rfl,rfl⟩,rfl⟩:=h;have hn:zcc l0=some (y.1,y.2):=by unfold zcc;rw [hb,zzq0,if_pos c,hx,zzq0];exact hy
  simp only [zeZ _ hn]
 rw [if_neg c]at h;rw [if_neg c];clear c;by_cases c:tag=104
 ·rw [if_pos c]at h
  rw [if_pos c];obtain⟨x,hx,h⟩:=zzO.1 h;obtain⟨y,hy,h⟩:=zzO.1 h;simp only [zzX1]at h;obtain⟨⟨rfl,rfl⟩,rfl⟩:=h;simp only [zc1 (n:=x.1) (l':=x.2) _ hx,zgv H hy]
 rw [if_neg c]at h;rw [if_neg c];clear c;by_cases c:tag=106
 ·rw [if_pos c]at h
  rw [if_pos c];simp only [zzX1]at h;obtain⟨⟨rfl,rfl⟩,rfl⟩:=h
  rfl
 rw [if_neg c]at h;rw [if_neg c];clear c;by_cases c:tag=108
 ·rw [if_pos c]at h
  rw [if_pos c];obtain⟨x,hx,h⟩:=zzO.1 h;obtain⟨y,hy,h⟩:=zzO.1 h;simp only [zzX1]at h;obtain⟨⟨rfl,rfl⟩,rfl⟩:=h;simp only [zdf (n:=x.1) (l':=x.2) _ hx,zgv H hy]
 rw [if_neg c]at h;rw [if_neg c];clear c;by_cases c:tag=109
 ·rw [if_pos c]at h
  rw [if_pos c];obtain⟨x,hx,h⟩:=zzO.1 h;obtain⟨y,hy,h⟩:=zzO.1 h;simp only [zzX1]at h;obtain⟨⟨rfl,rfl⟩,rfl⟩:=h;simp only [zdf (n:=x.1) (l':=x.2) _ hx,zfV (b:=y.1) (l':=y.2) _ hy]
 rw [if_neg c]at h;rw [if_neg c];clear c;by_cases c:tag=77
 ·rw [if_pos c]at h
  rw [if_pos c];obtain⟨x,hx,h⟩:=zzO.1 h;obtain⟨y,hy,h⟩:=zzO.1 h;split at h
  rotate_left
  ·exact zz69
  rename_i cc;obtain⟨z,hz,h⟩:=zzO.1 h;simp only [zzX1]at h;obtain⟨⟨rfl,rfl⟩,rfl⟩:=h;simp only [zdf (n:=x.1) (l':=x.2) _ hx,zc1 (n:=y.1) (l':=y.2) _ hy,zfV (b:=z.1) (l':=z.2) _ hz];have hz2:=zg0 hz;rw [hz2,show 8*(x.1:Int)-8+(y.1:Int)=8*((x.1:Int)-1)+(y.1:Int)by omega]
 rw [if_neg c]at h;rw [if_neg c];clear c;by_cases c:tag=88
 ·rw [if_pos c]at h
  rw [if_pos c];obtain⟨x,hx,h⟩:=zzO.1 h;obtain⟨y,hy,h⟩:=zzO.1 h;obtain⟨z,hz,h⟩:=zzO.1 h;split at h
  rotate_left
  ·exact zz69
  rename_i cc;obtain⟨q,hq,h⟩:=zzO.1 h;simp only [zzX1]at h;obtain⟨⟨rfl,rfl⟩,rfl⟩:=h;simp only [zeZ (b:=x.1) (l':=x.2) _ hx,zdf (n:=y.1) (l':=y.2) _ hy,zdf (n:=z.1) (l':=z.2) _ hz,zdf (n:=q.1) (l':=q.2) _ hq]
 rw [if_neg c]at h;rw [if_neg c];clear c;by_cases c:tag=90
 ·rw [if_pos c]at h
  rw [if_pos c];obtain⟨x,hx,h⟩:=zzO.1 h;split at h
  rotate_left
  ·exact zz69
  rename_i cc;obtain⟨y,hy,h⟩:=zzO.1 h;obtain⟨z,hz,h⟩:=zzO.1 h;obtain⟨q,hq,h⟩:=zzO.1 h;simp only [zzX1]at h;obtain⟨⟨rfl,rfl⟩,rfl⟩:=h;simp only [zdf (n:=x.1) (l':=x.2) _ hx,zeZ (b:=y.1) (l':=y.2) _ hy,zdf (n:=z.1) (l':=z.2) _ hz,zdf (n:=q.1) (l':=q.2) _ hq]
 rw [if_neg c]at h;rw [if_neg c];clear c;unfold zc3 zeF zd7 at h;rw [hb,zzq0]at h;by_cases c:tag=113
 ·rw [if_pos c]at h
  rw [if_pos c];obtain⟨x,hx,h⟩:=zzO.1 h;obtain⟨y,hy,h⟩:=zzO.1 h;obtain⟨z,hz,h⟩:=zzO.1 h;split at h
  rotate_left
  ·exact zz69
  rename_i cc;obtain⟨q,hq,h⟩:=zzO.1 h;simp only [zzX1]at h;obtain⟨⟨rfl,rfl⟩,rfl⟩:=h;simp only [zeZ (b:=x.1) (l':=x.2) _ hx,zeZ (b:=y.1) (l':=y.2) _ hy,zc1 (n:=z.1) (l':=z.2) _ hz,cc,if_true,zc1 (n:=q.1) (l':=q.2) _ hq]
 rw [if_neg c]at h;rw [if_neg c];clear c;split at h
 rotate_left
 ·exact zz69
 rename_i c;rw [if_pos c];obtain⟨a,ha,h⟩:=zzO.1 h;obtain⟨b,hb2,h⟩:=zzO.1 h;obtain⟨n,hn,h⟩:=zzO.1 h;obtain⟨m,hm,h⟩:=zzO.1 h;obtain⟨g,hg,h⟩:=zzO.1 h;obtain⟨q,hq,h⟩:=zzO.1 h;simp only [zzX1]at h;obtain⟨⟨rfl,rfl⟩,rfl⟩:=h;simp only [zc1 (n:=a.1) (l':=a.2) _ ha,zdf (n:=b.1) (l':=b.2) _ hb2,zc1 (n:=n.1) (l':=n.2) _ hn,zeZ (b:=m.1) (l':=m.2) _ hm,zdf (n:=g.1) (l':=g.2) _ hg,zgv H hq]
end
theorem zj9: ∀(f g:Nat),f<=g-> ∀p l t p' l',zA f p l=some ((t,p'),l')->zt g ⟨l,2000-(p:Int),false⟩=(t,⟨l',2000-(p':Int),false⟩)
 |0,_,_,p,l,t,p',l',h=>absurd h (by simp [zA])
 |f+1,0,hg,_,_,_,_,_,_=>absurd hg (by omega)
 |f+1,g+1,hg,p,l,t,p',l',h=>by
  unfold zA at h;split at h
  ·next c=>
   obtain⟨x,hx,h⟩:=zzO.1 h;have e1:(false||decide ((2000:Int)-(p:Int)-1<0))=false:=by rw [Bool.false_or];exact zzD (by omega)
   have e2:(2000:Int)-(p:Int)-1=2000-((p+1:Nat):Int):=by omega
   have ht:=zrc (fun p l t p' l' h=>zj9 f g (by omega) p l t p' l' h) (tag:=x.1) (l:=x.2) hx h;unfold zt;simp only [e1];rw [e2,zc1 (n:=x.1) (l':=x.2) _ hx];exact ht
  ·exact zz69
def RdJ (r:Nat) (s:ByteArray) (σ:RS) (w:World):Prop:= ∃a:Nat,w.heap[r]?=some (.cells #[.string s,.int .i64 a,.int .i64 σ.left,.bool σ.bad] 165 (0,0))/\a<=s.size/\s.data.toList.drop a=σ.l/\s.size<=4611686018427387904
def zP {α:Type} (r:Nat) (s:ByteArray) (w:World) (val:α->Value) (x:α × RS) (e:Ending) (w':World):Prop:=e= .returned (val x.1)/\RdJ r s x.2 w'/\w.grownBy w' (some r)
theorem RdJ.lt {r:Nat} {s:ByteArray} {σ:RS} {w:World} (h:RdJ r s σ w):r<w.heap.size:=by obtain⟨a,h,-⟩:=h;exact zc h
theorem RdJ.below {r:Nat} {s:ByteArray} {σ:RS} {w w':World} (h:RdJ r s σ w) (hb:Below w.heap.size w w'):RdJ r s σ w':=by
 obtain⟨a,h,h2⟩:=h;exact⟨a,(hb.block r (zc h)).trans h,h2⟩
theorem zhz {r:Nat} {w:World} {v0 v1 v2 v3:Value} (h:w.heap[r]?=some (.cells #[v0,v1,v2,v3] 165 (0,0))):
  w.cell? ⟨r,0,none⟩=some v0/\w.cell? ⟨r,1,none⟩=some v1/\w.cell? ⟨r,2,none⟩=some v2/\w.cell? ⟨r,3,none⟩=some v3/\w.frozen? ⟨r,1,none⟩=false/\w.frozen? ⟨r,2,none⟩=false/\w.frozen? ⟨r,3,none⟩=false:=by
 have hc:=fun j=>zzq2 w r j _ _ _ h
 have hf:=fun j=>zzq9 w r j _ _ h
 exact⟨hc 0,hc 1,hc 2,hc 3,hf 1,hf 2,hf 3⟩
theorem zmP (w:World) (n:Nat):(w.drewN n).heap=w.heap:=rfl
theorem zeN (r:Nat) (s:ByteArray) (σ:RS) (n:Nat) (w:World) (h:RdJ r s σ w) (hn:n<=4294967296):
  Calls Tryz.prog 130 #[.pointer (some ⟨r,0,none⟩),.int .i64 n] w (zP r s w Value.string (zbk n σ)):=by
 generalize hQ:zP r s w Value.string (zbk n σ)=Q at *;have HQ:=zzH hQ;clear hQ;obtain⟨a,hr,ha,hal,hs⟩:=h;obtain⟨c0,c1,c2,c3,f1,f2,f3⟩:=zhz hr;have hrl:=zc hr;have hlen:=zdy ha hal;have HR:=zzH hr;clear hr
 cases hb:σ.bad with
 |true=>
  have HT:Hid (zbk n σ=(⟨#[]⟩,σ.fail)):=zzH (if_pos (.inl hb));rw [hb]at c3 HR;clear hlen;exact zz143
 |false=>
  rw [hb]at c3 HR;by_cases c:σ.l.length<n
  ·have HT:Hid (zbk n σ=(⟨#[]⟩,σ.fail)):=zzH (if_pos (.inr c))
   have hgt:decide ((n:Int)>(s.size:Int)-(a:Int))=true:=zzT (by omega);have hw1:IntKind.i64.wrap ((s.size:Int)-(a:Int))=(s.size:Int)-(a:Int):=by rw [zzq3];omega
   clear hlen c;exact zz143
  ·have HT:Hid (zbk n σ=(⟨(σ.l.take n).toArray⟩,⟨σ.l.drop n,σ.left,false⟩)):=zzH (by
    unfold zbk;rw [if_neg (by rw [hb];simp;omega),hb])
   have HE:Hid (s.extract a (a+n)=⟨(σ.l.take n).toArray⟩):=zzH (by
    apply ByteArray.ext;apply Array.ext';rw [zfS,hal])
   have HL:Hid (s.data.toList.drop (a+n)=σ.l.drop n):=zzH (by rw [<-hal,List.drop_drop]);have hgt:decide ((n:Int)>(s.size:Int)-(a:Int))=false:=zzD (by omega);have hw1:IntKind.i64.wrap ((s.size:Int)-(a:Int))=(s.size:Int)-(a:Int):=by rw [zzq3];omega
   have hw2:IntKind.i64.wrap ((a:Int)+(n:Int))=((a+n:Nat):Int):=by rw [zzq3];omega
   have h1:((a+n:Nat):Int)<=(s.size:Int):=by omega
   have h2:(a:Int)<=((a+n:Nat):Int):=by omega
   have HSZ:Hid (a+n<=s.size):=zzH (by omega);clear hlen c;go_in;go_wp2_with fail;go_quiet (fail);go_wp2_with fail;go_quiet (fail);go_wp2_with fail;rw [<-HQ.out,HT.out];refine⟨by rw [<-HE.out];rfl,⟨a+n,zzS _ r 1 _ _ _ ((zmP _ _).symm▸HR.out),HSZ.out,HL.out,hs⟩,?_⟩
   first|exact zh (zdm (zb5 w (some r)) _) (zG _ r 1 _)|exact zh (zdm (zdm (zb5 w (some r)) _) _) (zG _ r 1 _)
theorem zQ (k:Nat) (r:Nat) (s:ByteArray) (σ:RS) (w:World) (h:RdJ r s σ w) (hk:k<=7):
  Calls Tryz.prog 126 #[.pointer (some ⟨r,0,none⟩),.int .i64 k] w (zP r s w (fun n:Nat=>Value.int .i64 n) (zi k σ)):=by
 have hT:=zeN r s σ k w h (by omega);unfold zi
 have hsz:(zbk k σ).1.size<=k:=by
  unfold zbk;split
  ·exact zzZ _
  ·show(σ.l.take k).toArray.size<=k;rw [List.size_toArray,List.length_take];omega
 generalize zbk k σ=x at *;obtain⟨b,τ⟩:=x;simp only at *;generalize hQ:zP r s w (fun n:Nat=>Value.int .i64 n) (beV b.data.toList,τ)=Q at *;have HQ:=zzH hQ;clear hQ;unfold zP at hT;have HT:=zzH hT;clear hT h;go_in;go_wp2_with (go_at_call 130;refine HT.out.mono ?_;rintro e w1 ⟨rfl,hr1,hg1⟩);have HR1:=zzH hr1;have HG1:=zzH hg1;clear hr1 hg1 HT;go_loop [6,7] (fun nv iv=> ∃j:Nat,j<=b.size/\iv= .int .i64 j/\nv= .int .i64 (beV (b.data.toList.take j))) (fun _ iv=>b.size-(intOf iv).toNat)
 case atStart=>exact⟨0,zzZ _,rfl,rfl⟩
 case round=>
  obtain⟨j,hj,rfl,rfl⟩:=hrel;by_cases hlt:j<b.size
  ·have hjl:j<b.data.toList.length:=by rw [Array.length_toList];exact hlt
   have hv:Hid (beV (b.data.toList.take (j+1))=256*beV (b.data.toList.take j)+(b[j]'hlt).toNat):=zzH (by rw [List.take_succ_eq_append_getElem hjl,zkh];rfl)
   have hm:beV (b.data.toList.take j)<281474976710656:=by
    have:=zgi (b.data.toList.take j);rw [List.length_take]at this;refine zzW this ?_;exact Nat.pow_le_pow_right (by omega) (show min j b.data.toList.length<=6 by omega)
   have hcl:=(b[j]'hlt).toNat_lt;have HV:Hid ((256:Int)*(beV (b.data.toList.take j):Int)+((b[j]'hlt).toNat:Int)=(beV (b.data.toList.take (j+1)):Int)):=zzH (by rw [hv.out];omega);clear hjl hv;generalize beV (b.data.toList.take j)=n at *;go_wp2;go_round
   case rel=>exact⟨j+1,by omega,by go_num,by first|exact congrArg (Value.int .i64) HV.out|(congr 1;exact HV.out)⟩
   case measure=>simp [intOf];omega
  ·have ht:Hid (beV (b.data.toList.take j)=beV b.data.toList):=zzH (by rw [List.take_of_length_le (by rw [Array.length_toList];exact Nat.le_of_not_lt hlt)])
   go_wp2_with fail;rw [<-HQ.out];exact⟨by rw [<-ht.out],HR1.out,HG1.out⟩
theorem zbT (k:Nat) (σ:RS):(zi k σ).1<256^k:=by
 unfold zi;refine zzW (zgi _) (Nat.pow_le_pow_right (by omega) ?_);unfold zbk;split
 ·exact zzZ _
 ·show(σ.l.take k).toArray.toList.length<=k;rw [List.toList_toArray,List.length_take];omega
theorem RdJ.fail {r:Nat} {s:ByteArray} {σ:RS} {w:World} (h:RdJ r s σ w):RdJ r s σ.fail (w.setCell ⟨r,3,none⟩ (.bool true)):=by
 obtain⟨a,h1,h2⟩:=h;exact⟨a,zzS _ r 3 _ _ _ h1,h2⟩
theorem RdJ.cells {r:Nat} {s:ByteArray} {σ:RS} {w:World} (h:RdJ r s σ w): ∃a:Nat,w.cell? ⟨r,0,none⟩=some (.string s)/\w.cell? ⟨r,1,none⟩=some (.int .i64 a)/\w.cell? ⟨r,2,none⟩=some (.int .i64 σ.left)/\w.cell? ⟨r,3,none⟩=some (.bool σ.bad)/\w.frozen? ⟨r,1,none⟩=false/\w.frozen? ⟨r,2,none⟩=false/\w.frozen? ⟨r,3,none⟩=false:=by
 obtain⟨a,h1,h2⟩:=h;exact⟨a,zhz h1⟩
theorem zeC (r:Nat) (s:ByteArray) (σ:RS) (w:World) (h:RdJ r s σ w):
  Calls Tryz.prog 128 #[.pointer (some ⟨r,0,none⟩)] w (zP r s w Value.string (zbi σ)):=by
 generalize hQ:zP r s w Value.string (zbi σ)=Q at *;have HQ:=zzH hQ;clear hQ;have H1:=zQ 1 r s σ w h (by omega);have HN:Hid (zbi σ=zbk (zi 1 (if(zi 1 σ).1=119 then(zi 1 σ).2 else(zi 1 σ).2.fail)).1 (zi 1 (if(zi 1 σ).1=119 then(zi 1 σ).2 else(zi 1 σ).2.fail)).2):=zzH rfl;generalize zi 1 σ=x at *;obtain⟨n,τ⟩:=x;unfold zP at H1;simp only at H1 HN;have H1':=zzH H1;clear H1 h;have HJ:Hid (∀(τ':RS) (wx:World),RdJ r s τ' wx->Calls Tryz.prog 126 #[.pointer (some ⟨r,0,none⟩),.int .i64 1] wx (zP r s wx (fun n:Nat=>Value.int .i64 n) (zi 1 τ'))):=zzH fun τ' wx hx=>zQ 1 r s τ' wx hx (by omega)
 by_cases hn:n=119
 ·rw [if_pos hn]at HN
  subst hn;have hl:=zbT 1 τ;go_in;go_wp2_with fail;refine H1'.out.mono ?_;rintro e w1 ⟨rfl,hr1,hg1⟩;have H2:=HJ.out τ w1 hr1;unfold zP at H2;generalize zi 1 τ=x at *;obtain⟨m,τ2⟩:=x;simp only at H2 HN hl;go_wp2_with (go_at_call 126;refine H2.mono ?_;rintro e w2 ⟨rfl,hr2,hg2⟩);have H3:=zeN r s τ2 m w2 hr2 (by omega);unfold zP at H3;go_wp2_with (go_at_call 130;refine H3.mono ?_;rintro e w3 ⟨rfl,hr3,hg3⟩);rw [<-HQ.out,HN.out];exact⟨rfl,hr3,zh hg1 (zh hg2 hg3)⟩
 ·rw [if_neg hn]at HN
  have hd:((n:Int)!=119)=true:=by rw [bne_iff_ne];omega
  have hl:=zbT 1 τ.fail;go_in;go_wp2_with fail;refine H1'.out.mono ?_;rintro e w1 ⟨rfl,hr1,hg1⟩;obtain⟨a1,c0,c1,c2,c3,f1,f2,f3⟩:=hr1.cells;have hlt1:=hr1.lt;go_upto_region 3 with fail;have H2:=HJ.out τ.fail _ hr1.fail;unfold zP at H2;have HG1:=zzH (zh hg1 (zG w1 r 3 (.bool true)));clear hg1 hr1 c0 c1 c2 c3 f1 f2 f3 hlt1;generalize w1.setCell _ _=w1' at *;generalize zi 1 τ.fail=x at *;obtain⟨m,τ2⟩:=x;simp only at H2 HN hl;go_wp2_with (go_at_call 126;refine H2.mono ?_;rintro e w2 ⟨rfl,hr2,hg2⟩);have H3:=zeN r s τ2 m w2 hr2 (by omega);unfold zP at H3;go_wp2_with (go_at_call 130;refine H3.mono ?_;rintro e w3 ⟨rfl,hr3,hg3⟩);rw [<-HQ.out,HN.out];exact⟨rfl,hr3,zh HG1.out (zh hg2 hg3)⟩
theorem zl1 {n:Nat} {σ:RS} (h:(zbk n σ).2.bad=false):(zbk n σ).1.size=n:=by
 unfold zbk at h ⊢;split at h
 ·exact absurd h (by simp [RS.fail])
 ·next c=>
  rw [if_neg c];show(σ.l.take n).toArray.size=n;rw [List.size_toArray,List.length_take];omega
theorem zhS (n:Nat) (σ:RS):(zbk n σ).1.size<=n:=by
 unfold zbk;split
 ·exact zzZ _
 ·show(σ.l.take n).toArray.size<=n;rw [List.size_toArray,List.length_take];omega
theorem zmM (r:Nat) (s:ByteArray) (σ:RS) (w:World) (h:RdJ r s σ w):
  Calls Tryz.prog 127 #[.pointer (some ⟨r,0,none⟩)] w (zP r s w (Value.int .i64) (zdU σ)):=by
 generalize hQ:zP r s w (Value.int .i64) (zdU σ)=Q at *;have HQ:=zzH hQ;clear hQ
 have HN:Hid (zdU σ=(zeU (zi 1 (zi 1 σ).2).1 (if 8<(zi 1 σ).1∨1<(zi 1 (zi 1 σ).2).1 then(zbk (zi 1 σ).1 (zi 1 (zi 1 σ).2).2).2.fail else(zbk (zi 1 σ).1 (zi 1 (zi 1 σ).2).2).2).bad (zbk (zi 1 σ).1 (zi 1 (zi 1 σ).2).2).1,
  (if 8<(zi 1 σ).1∨1<(zi 1 (zi 1 σ).2).1 then(zbk (zi 1 σ).1 (zi 1 (zi 1 σ).2).2).2.fail else(zbk (zi 1 σ).1 (zi 1 (zi 1 σ).2).2).2))):=zzH rfl
 have H1:=zQ 1 r s σ w h (by omega);have hl1:=zbT 1 σ;generalize zi 1 σ=x at *;obtain⟨n,τ1⟩:=x;unfold zP at H1;simp only at H1 HN hl1;have HJ:Hid (∀(wx:World),RdJ r s τ1 wx->Calls Tryz.prog 126 #[.pointer (some ⟨r,0,none⟩),.int .i64 1] wx (zP r s wx (fun n:Nat=>Value.int .i64 n) (zi 1 τ1))):=zzH fun wx hx=>zQ 1 r s τ1 wx hx (by omega)
 have hl2:=zbT 1 τ1;generalize zi 1 τ1=x at *;obtain⟨g,τ2⟩:=x;simp only at HN hl2;unfold zP at HJ;simp only at HJ;have HT:Hid (∀(wx:World),RdJ r s τ2 wx->Calls Tryz.prog 130 #[.pointer (some ⟨r,0,none⟩),.int .i64 n] wx (zP r s wx Value.string (zbk n τ2))):=zzH fun wx hx=>zeN r s τ2 n wx hx (by omega)
 have hgood:Hid ((zbk n τ2).2.bad=false->(zbk n τ2).1.size=n):=zzH zl1;have HBS:Hid ((zbk n τ2).1.size<=255):=zzH (by have:=zhS n τ2;omega);generalize zbk n τ2=x at *;obtain⟨b,τ3⟩:=x;simp only at HN hgood HBS;unfold zP at HT;simp only at HT;have H1':=zzH H1;clear H1 h;go_in;go_wp2_with fail;refine H1'.out.mono ?_;rintro e w1 ⟨rfl,hr1,hg1⟩;have HG1:=zzH hg1;go_wp2_with fail;refine(HJ.out w1 hr1).mono ?_;rintro e w2 ⟨rfl,hr2,hg2⟩;have HG2:=zzH hg2;go_wp2_with fail;refine(HT.out w2 hr2).mono ?_;rintro e w3 ⟨rfl,hr3,hg3⟩;have HG3:=zzH (zh HG1.out (zh HG2.out hg3));clear HG1 HG2 hg1 hg2 hg3 hr1 hr2 H1' HJ HT;have hbs:b.size<=255:=HBS.out;have hbs:b.size<=255:=HBS.out;by_cases hbad:8<n∨1<g
 ·rw [if_pos hbad]at HN
  have HE:Hid (zeU g τ3.fail.bad b=0):=zzH (if_pos rfl);by_cases h8:8<n
  ·obtain⟨a1,c0,c1,c2,c3,f1,f2,f3⟩:=hr3.cells
   have hlt3:=hr3.lt;have HF:=zzH hr3.fail;have HG4:=zzH (zh HG3.out (zG w3 r 3 (.bool true)));have hszw:IntKind.i64.wrap ((b.size:Int)-1)=(b.size:Int)-1:=by rw [zzq3];omega
   clear hr3;have d1:decide ((n:Int)>8)=true:=zzT (by omega);exact zz144
  ·obtain⟨a1,c0,c1,c2,c3,f1,f2,f3⟩:=hr3.cells
   have hlt3:=hr3.lt;have HF:=zzH hr3.fail;have HG4:=zzH (zh HG3.out (zG w3 r 3 (.bool true)));have hszw:IntKind.i64.wrap ((b.size:Int)-1)=(b.size:Int)-1:=by rw [zzq3];omega
   clear hr3;have d1:decide ((n:Int)>8)=false:=zzD (by omega);have d2:decide ((g:Int)>1)=true:=zzT (by omega);exact zz144
 ·rw [if_neg hbad]at HN
  have d1:decide ((n:Int)>8)=false:=zzD (by omega);have d2:decide ((g:Int)>1)=false:=zzD (by omega);have hszw:IntKind.i64.wrap ((b.size:Int)-1)=(b.size:Int)-1:=by rw [zzq3];omega
  obtain⟨a1,c0,c1,c2,c3,f1,f2,f3⟩:=hr3.cells;have hlt3:=hr3.lt;have HF:=zzH hr3;have HG4:=HG3;clear hr3
  cases hb3:τ3.bad with
  |true=>
   have HE:Hid (zeU g τ3.bad b=0):=zzH (if_pos hb3);rw [hb3]at c3;go_wp2_with fail;go_loop [6,7] (fun u i=>u= .int .u64 0/\i= .int .i64 ((b.size:Int)-1)) (fun _ _=>0)
   case atStart=>exact⟨rfl,rfl⟩
   case round=>
    obtain⟨rfl,rfl⟩:=hrel
    cases hz:decide ((b.size:Int)-1≥0)with
    |true=>
     go_wp2_with fail
     all_goals
      rw [<-HQ.out,HN.out,HE.out];exact⟨rfl,HF.out,HG4.out⟩
    |false=>
     go_wp2_with fail
     all_goals
      rw [<-HQ.out,HN.out,HE.out];exact⟨rfl,HF.out,HG4.out⟩
  |false=>
   have hbn:=hgood.out hb3;rw [hb3]at c3;have HE:Hid (zeU g τ3.bad b=if g=1 then wrap64 (IntKind.u64.wrap (-(leV b.data.toList:Int)))else wrap64 (leV b.data.toList:Int)):=zzH (if_neg (by rw [hb3];simp));have hb8:b.size<=8:=by omega
   have hll:b.data.toList.length=b.size:=Array.length_toList;clear hgood hbs hbn HBS;go_wp2_with fail;go_loop [6,7] (fun u i=> ∃k:Nat,k<=b.size/\i= .int .i64 ((k:Int)-1)/\u= .int .u64 (leV (b.data.toList.drop k))) (fun _ i=>(intOf i+1).toNat)
   case atStart=>exact⟨b.size,zzL _,rfl,by rw [List.drop_of_length_le (by omega)];rfl⟩
   case round=>
    obtain⟨k,hk,rfl,rfl⟩:=hrel
    cases k with
    |succ j=>
     have hj:j<b.size:=by omega
     have hjl:j<b.data.toList.length:=by omega
     have HU:Hid (leV (b.data.toList.drop j)=256*leV (b.data.toList.drop (j+1))+(b[j]).toNat):=zzH (zkj hjl);have hu:=znO (l:=b.data.toList) (j:=j+1) (n:=b.size) (by omega) (by omega);have hcl:=(b[j]).toNat_lt;have hi:((j+1:Nat):Int)-1=(j:Int):=by omega
     have hge:decide ((j:Int)≥0)=true:=zzT (by omega);have HW:Hid (IntKind.u64.wrap (256*(leV (b.data.toList.drop (j+1)):Int)+((b[j]).toNat:Int))=(leV (b.data.toList.drop j):Int)):=zzH (by rw [HU.out,IntKind.wrap_u64];omega);have HW2:Hid ((256:Int)*(leV (b.data.toList.drop (j+1)):Int)+((b[j]).toNat:Int)=(leV (b.data.toList.drop j):Int)):=zzH (by rw [HU.out];omega);generalize leV (b.data.toList.drop (j+1))=u at *;rw [hi];go_wp2;go_round
     case rel=>exact⟨j,by omega,by go_num,by first|exact congrArg (Value.int .u64) HW2.out|exact congrArg (Value.int .u64) HW.out⟩
     case measure=>simp [intOf]
    |zero=>
     have hi:((0:Nat):Int)-1= -1:=rfl;rw [hi,List.drop_zero];have hU:=zii b.data.toList;rw [hll]at hU;have hU2:leV b.data.toList<18446744073709551616:=zzW hU (Nat.pow_le_pow_right (n:=256) (by omega) (show b.size<=8 by omega));clear hU;generalize leV b.data.toList=U at *;by_cases cm:g=1
     ·rw [if_pos cm]at HE
      subst cm;go_wp2_with fail;rw [<-HQ.out,HN.out,HE.out];exact⟨rfl,HF.out,HG4.out⟩
     ·rw [if_neg cm]at HE
      have hne:((g:Int)==1)=false:=zzB.2 (by omega);go_wp2_with fail;rw [<-HQ.out,HN.out,HE.out];exact⟨rfl,HF.out,HG4.out⟩
theorem zeg (n:Nat) (σ:RS):(zbk n σ).2.left=σ.left:=by unfold zbk;split<;>rfl
theorem zM (k:Nat) (σ:RS):(zi k σ).2.left=σ.left:=zeg k σ
theorem zc8 (σ:RS):(zbi σ).2.left=σ.left:=by
 unfold zbi;simp only [zeg,zM];split
 ·exact zM 1 σ
 ·exact zM 1 σ
theorem zk8 (σ:RS):(zdU σ).2.left=σ.left:=by
 unfold zdU;simp only;split
 ·show(zbk _ _).2.left=_
  rw [zeg,zM,zM]
 ·rw [zeg,zM,zM]
theorem ziT (k:Nat) (σ:RS) (h:σ.bad=true):zi k σ=(0,σ.fail):=by unfold zi zbk;rw [if_pos (.inl h)];rfl
theorem zch (f:Nat) (σ:RS) (hb:σ.bad=false) (h0:0<σ.left):zt (f+1) σ=zfZ (zt f) ⟨σ.l,σ.left-1,false⟩ (zi 1 ⟨σ.l,σ.left-1,false⟩).1 (zi 1 ⟨σ.l,σ.left-1,false⟩).2:=by
 have e:(σ.bad||decide (σ.left-1<0))=false:=by rw [hb,decide_eq_false (by omega)];rfl
 unfold zt;simp only [e]
theorem zg8 (f:Nat) (σ:RS) (hb:σ.bad=false) (h0:σ.left=0):zt f σ=(tmK 0,⟨σ.l,-1,true⟩):=by
 cases f with
 |zero=>unfold zt;rw [h0];rfl
 |succ f=>
  have e:(σ.bad||decide (σ.left-1<0))=true:=by rw [h0,hb];rfl
  unfold zt;simp only [e];rw [ziT 1 _ rfl,h0]
  rfl
def zgr (σ τ:RS) (n:Nat):Prop:=(n:Int)+τ.left<=σ.left/\ -1<=τ.left/\(τ.bad=false->0<=τ.left)
theorem zhp {f:Nat} (H: ∀σ:RS,σ.bad=false->0<=σ.left->σ.left<=(f:Int)->zgr σ (zt f σ).2 (zW (f+1) (zt f σ).1)):
  ∀(n:Nat) (σ:RS),(σ.bad=false->0<=σ.left)-> -1<=σ.left->σ.left<=f->zgr σ (zbn (zt f) n σ).2 ((zbn (zt f) n σ).1.map (zW (f+1))).sum
 |0,σ,h1,h2,h3=>⟨by show((0:Nat):Int)+σ.left<=σ.left;omega,h2,h1⟩
 |n+1,σ,h1,h2,h3=>by
  cases hb:σ.bad with
  |true=>
   have e:zbn (zt f) (n+1) σ=([],σ):=if_pos hb;rw [e];exact⟨by show((0:Nat):Int)+σ.left<=σ.left;omega,h2,h1⟩
  |false=>
   have e:zbn (zt f) (n+1) σ=((zt f σ).1::(zbn (zt f) n (zt f σ).2).1,(zbn (zt f) n (zt f σ).2).2):=if_neg (by rw [hb];simp);obtain⟨a1,a2,a3⟩:=H σ hb (h1 hb) h3;obtain⟨b1,b2,b3⟩:=zhp H n (zt f σ).2 a3 a2 (by omega);rw [e];refine⟨?_,b2,b3⟩;rw [List.map_cons,List.sum_cons];show((zW (f+1) (zt f σ).1+_:Nat):Int)+(zbn (zt f) n (zt f σ).2).2.left<=σ.left;omega
theorem zoH {f:Nat} (H: ∀σ:RS,σ.bad=false->0<=σ.left->σ.left<=(f:Int)->zgr σ (zt f σ).2 (zW (f+1) (zt f σ).1)) {σ0 τ:RS} (n:Nat) (h0:0<=σ0.left) (hf:σ0.left<=f) (ht:τ.left=σ0.left):
  zgr ⟨σ0.l,σ0.left+1,false⟩ (zfZ (zt f) σ0 n τ).2 (zW (f+2) (zfZ (zt f) σ0 n τ).1):=by
 have leaf: ∀(t:Tm) (ρ:RS),t.items= []->ρ.left=σ0.left->zgr ⟨σ0.l,σ0.left+1,false⟩ ρ (zW (f+2) t):=fun t ρ e1 e2=>by
  have hn:zW (f+2) t=1:=by show 1+(t.items.map (zW (f+1))).sum=1;rw [e1];rfl
  rw [hn];exact⟨by show((1:Nat):Int)+ρ.left<=σ0.left+1;omega,by omega,fun _=>by omega⟩
 have node: ∀(t:Tm) (m:Nat) (ρ:RS),t.items=(zbn (zt f) m ρ).1->ρ.left=σ0.left->zgr ⟨σ0.l,σ0.left+1,false⟩ (zbn (zt f) m ρ).2 (zW (f+2) t):=fun t m ρ e1 e2=>by
  obtain⟨b1,b2,b3⟩:=zhp H m ρ (fun _=>by omega) (by omega) (by omega);have hn:zW (f+2) t=1+((zbn (zt f) m ρ).1.map (zW (f+1))).sum:=by show 1+(t.items.map (zW (f+1))).sum=_;rw [e1]
  rw [hn];exact⟨by show((1+_:Nat):Int)+_<=σ0.left+1;omega,b2,b3⟩
 unfold zfZ;by_cases c:n=97
 ·rw [if_pos c];exact leaf _ _ rfl (by rw [zM];exact ht)
 rw [if_neg c];clear c;by_cases c:n=98
 ·rw [if_pos c];exact leaf _ _ rfl (by rw [zM];exact ht)
 rw [if_neg c];clear c;by_cases c:n=110
 ·rw [if_pos c];exact leaf _ _ rfl (by rw [zk8];exact ht)
 rw [if_neg c];clear c;by_cases c:n=119
 ·rw [if_pos c];exact leaf _ _ rfl (by rw [zc8])
 rw [if_neg c];clear c;by_cases c:n=104
 ·rw [if_pos c];exact node _ _ _ rfl (by rw [zM];exact ht)
 rw [if_neg c];clear c;by_cases c:n=106
 ·rw [if_pos c];exact leaf _ _ rfl ht
 rw [if_neg c];clear c;by_cases c:n=108
 ·rw [if_pos c];exact node _ _ _ rfl (by rw [zM];exact ht)
 rw [if_neg c];clear c;by_cases c:n=109
 ·rw [if_pos c];exact leaf _ _ rfl (by rw [zeg,zM];exact ht)
 rw [if_neg c];clear c;by_cases c:n=77
 ·rw [if_pos c];exact leaf _ _ rfl (by rw [zeg,zM,zM];exact ht)
 rw [if_neg c];clear c;by_cases c:n=88
 ·rw [if_pos c];exact leaf _ _ rfl (by rw [zM,zM,zM,zc8];exact ht)
 rw [if_neg c];clear c;by_cases c:n=90
 ·rw [if_pos c];exact leaf _ _ rfl (by rw [zM,zM,zc8,zM];exact ht)
 rw [if_neg c];clear c;by_cases c:n=113
 ·rw [if_pos c]
  refine leaf _ _ rfl ?_;rw [zM];split
  ·rw [zM,zc8,zc8];exact ht
  ·show(zi 1 (zbi (zbi τ).2).2).2.left=_
   rw [zM,zc8,zc8];exact ht
 rw [if_neg c];clear c;by_cases c:n=112
 ·rw [if_pos c];exact node _ _ _ rfl (by rw [zM,zc8,zM,zM,zM];exact ht)
 rw [if_neg c];exact leaf _ _ rfl ht
theorem zeh: ∀(f:Nat) (σ:RS),σ.bad=false->0<=σ.left->σ.left<=f->zgr σ (zt f σ).2 (zW (f+1) (zt f σ).1)
 |0,σ,hb,h0,h1=>by
  have e0:σ.left=0:=by omega
  rw [zg8 0 σ hb e0];exact zz146
 |f+1,σ,hb,h0,h1=>by
  by_cases e0:σ.left=0
  ·rw [zg8 (f+1) σ hb e0]
   exact zz146
  ·rw [zch f σ hb (by omega)]
   have h:=zoH (zeh f) (σ0:=⟨σ.l,σ.left-1,false⟩) (τ:=(zi 1 ⟨σ.l,σ.left-1,false⟩).2) (zi 1 ⟨σ.l,σ.left-1,false⟩).1 (by show 0<=σ.left-1;omega) (by show σ.left-1<=f;omega) (zM 1 _);obtain⟨a1,a2,a3⟩:=h;exact⟨by have a1:_<=σ.left-1+1:=a1;rw [Int.sub_add_cancel]at a1;exact a1,a2,a3⟩
theorem zgg (n:Int) (w:World) (hn:I64 n):
  Calls Tryz.prog 107 #[.int .i64 n] w (zfm w (zb9 n)):=by
 obtain⟨i0,hi,hz0,hz1,hz2⟩:=info_parts ze2;have HE:Hid (zb9 n=if 0<=n/\n<=255 then [97,UInt8.ofNat n.toNat]else if -2147483648<=n/\n<=2147483647 then 98::beN 4 n else zgV n):=zzH rfl;generalize zb9 n=E at *;by_cases h1:0<=n/\n<=255
 ·rw [if_pos h1]at HE
  obtain⟨a1,a2⟩:=h1;have hown:=ze0 (w:=w) (B:=w.heap.size) #[.int .u8 97,.int .u8 n] [97,UInt8.ofNat n.toNat] 2 (zzL _) rfl (by simp [zy];omega) (by omega);have hb:Below w.heap.size w (w.alloc (.cells #[.int .u8 97,.int .u8 n] 5)):=(zzR _ _).alloc (zzL _) _;have HF:=zzH (And.intro hown hb);clear hown hb;go_in;go_wp2_with fail;go_ret;exact⟨_,rfl,by rw [HE.out];exact HF.out.1,HF.out.2⟩
 ·rw [if_neg h1]at HE
  by_cases h2: -2147483648<=n/\n<=2147483647
  ·rw [if_pos h2]at HE
   have hown:=ze0 (w:=w) (B:=w.heap.size) #[.int .u8 98] [98] 1 (zzL _) rfl rfl (by omega);have hb:Below w.heap.size w (w.alloc (.cells #[.int .u8 98] 5)):=(zzR _ _).alloc (zzL _) _;have hc:=zck n 4 (w.alloc (.cells #[.int .u8 98] 5)) hn (by omega);have HO:=zzH hown;have HB:=zzH hb;have HC:=zzH hc;obtain⟨b1,b2⟩:=h2;clear hown hb hc;by_cases h0:0<=n
   ·have h3:256<=n:=by omega
    clear h1;exact zz150
   ·have h3:n<0:=by omega
    clear h1 h0;exact zz150
  ·rw [if_neg h2]at HE
   have HBG:Hid (E=110::UInt8.ofNat (leN 8 n.natAbs).length::(if n<0 then 1 else 0)::leN 8 n.natAbs):=zzH HE.out;obtain⟨n0,n1⟩:=hn;clear HE;generalize hAA:leN 8 n.natAbs=A at HBG;have HA:Hid (A= []++leN 8 n.natAbs):=zzH hAA.symm;have HAA:=zzH hAA;by_cases h0:n<0
   ·have h3:n< -2147483648:=by omega
    have HS:Hid (IntKind.u64.wrap (-IntKind.u64.wrap n)=(n.natAbs:Int)):=zzH (by rw [IntKind.wrap_u64,IntKind.wrap_u64];omega);clear h1 h2 hAA;go_in;go_wp2_with fail;go_loopw [4,5] (fun uv lv wr=> ∃(m f:Nat) (xs:List UInt8),uv= .int .u64 (m:Int)/\m<256^f/\m<=9223372036854775808/\xs.length+f=8/\Hid (A=xs++leN f m)/\Hid (wr.ownsRow w.heap.size 5 1 lv xs.length (zy xs))/\Below w.heap.size w wr) (fun uv _ _=>(intOf uv).toNat)
    case atStart=>exact⟨n.natAbs,8,[],by rw [HS.out],by omega,by omega,rfl,HA,zzH (World.ownsRow_nil _ _ _ _),zzR _ _⟩
    case round=>
     obtain⟨m,f,xs,rfl,hm,hmx,hxf,HV,HO,hB⟩:=hrel;rename World=>wr
     have hown:=HO.out;have hsz0:=hB.size;by_cases hm0:0<m
     ·exact zz149
     ·obtain rfl:m=0:=by omega
      have HV2:Hid (A=xs):=zzH (by rw [HV.out,zjM,List.append_nil])
      have hxn:xs≠ []:=fun e=>by
       exact zz151
      have hxl:0<xs.length:=List.length_pos_iff.2 hxn;have HX:Hid (∃g cap cur,(_:Value)= .slice (some ⟨g,0,none⟩) xs.length cap/\w.heap.size<=g/\wr.heap[g]?=some (.cells cur 5 (0,0))/\cur.toList.take xs.length=zy xs):=zzH (zbH HO.out hxn)
      obtain⟨g,cap,cur,rfl,hg1,hg2,hg3⟩:=HX.out;have hlo:=ze0 (w:=wr) (B:=w.heap.size) #[.int .u8 110,.int .u8 xs.length,.int .u8 1] [110,UInt8.ofNat xs.length,1] 3 hsz0 rfl (by simp [zy];omega) (by omega);have hbl:Below wr.heap.size wr (wr.alloc (.cells #[.int .u8 110,.int .u8 xs.length,.int .u8 1] 5)):=(zzR _ _).alloc (zzL _) _;have HN:=zzH (zbM ((hbl.block g (zc hg2)).trans hg2) hg3);have HLO:=zzH hlo;have HBL:=zzH (hB.trans (hbl.mono hsz0));clear hg1 hg2 hg3 hxn HX HO hown hlo hbl;go_wp2_with (at_builtin;refine wpList_append_own_at _ rfl (.tmp 45) (.tmp 46) 74 rfl w.heap.size 5 i0 (.int .u8 0) 1 1 Tryz.underlying74 hi hz0 hz1 hz2 rfl (by decide) _ 3 (zy [110,UInt8.ofNat xs.length,1]) rfl HLO.out ⟨g,0,none⟩ xs.length cap (zy xs) rfl (by rw [zbr];omega) HN.out (zbC _) (by unfold maxLen;omega) (by omega) (by simp;omega) ?_);intro v' w2 hown' hgrow hnil hloc
      have HF:Hid (w2.ownsRow w.heap.size 5 1 v' E.length (zy E)/\Below w.heap.size w w2):=zzH ⟨by
       have e:E= [110,UInt8.ofNat xs.length,1]++xs:=by rw [HBG.out,HV2.out];rw [if_pos h0];rfl
       rw [e,zeJ,zzq1];exact hown',HBL.out.grown hgrow (by simp;omega) (fun k hk=>(HLO.out.lt k hk).1)⟩
      clear hown' hgrow hnil hloc;go_wp2_with fail;go_ret;exact⟨_,rfl,HF.out⟩
   ·have h3:2147483647<n:=by omega
    have HS:Hid (n=(n.natAbs:Int)):=zzH (by omega);have h4:0<=n:=by omega
    clear h1 h2 hAA h0;go_in;go_wp2_with fail;go_loopw [4,5] (fun uv lv wr=> ∃(m f:Nat) (xs:List UInt8),uv= .int .u64 (m:Int)/\m<256^f/\m<=9223372036854775808/\xs.length+f=8/\Hid (A=xs++leN f m)/\Hid (wr.ownsRow w.heap.size 5 1 lv xs.length (zy xs))/\Below w.heap.size w wr) (fun uv _ _=>(intOf uv).toNat)
    case atStart=>exact⟨n.natAbs,8,[],congrArg _ HS.out,by omega,by omega,rfl,HA,zzH (World.ownsRow_nil _ _ _ _),zzR _ _⟩
    case round=>
     obtain⟨m,f,xs,rfl,hm,hmx,hxf,HV,HO,hB⟩:=hrel;rename World=>wr
     have hown:=HO.out;have hsz0:=hB.size;by_cases hm0:0<m
     ·exact zz149
     ·obtain rfl:m=0:=by omega
      have HV2:Hid (A=xs):=zzH (by rw [HV.out,zjM,List.append_nil])
      have hxn:xs≠ []:=fun e=>by
       exact zz151
      have hxl:0<xs.length:=List.length_pos_iff.2 hxn;have HX:Hid (∃g cap cur,(_:Value)= .slice (some ⟨g,0,none⟩) xs.length cap/\w.heap.size<=g/\wr.heap[g]?=some (.cells cur 5 (0,0))/\cur.toList.take xs.length=zy xs):=zzH (zbH HO.out hxn)
      obtain⟨g,cap,cur,rfl,hg1,hg2,hg3⟩:=HX.out;have hlo:=ze0 (w:=wr) (B:=w.heap.size) #[.int .u8 110,.int .u8 xs.length,.int .u8 0] [110,UInt8.ofNat xs.length,0] 3 hsz0 rfl (by simp [zy];omega) (by omega);have hbl:Below wr.heap.size wr (wr.alloc (.cells #[.int .u8 110,.int .u8 xs.length,.int .u8 0] 5)):=(zzR _ _).alloc (zzL _) _;have HN:=zzH (zbM ((hbl.block g (zc hg2)).trans hg2) hg3);have HLO:=zzH hlo;have HBL:=zzH (hB.trans (hbl.mono hsz0));clear hg1 hg2 hg3 hxn HX HO hown hlo hbl;go_wp2_with (at_builtin;refine wpList_append_own_at _ rfl (.tmp 45) (.tmp 46) 74 rfl w.heap.size 5 i0 (.int .u8 0) 1 1 Tryz.underlying74 hi hz0 hz1 hz2 rfl (by decide) _ 3 (zy [110,UInt8.ofNat xs.length,0]) rfl HLO.out ⟨g,0,none⟩ xs.length cap (zy xs) rfl (by rw [zbr];omega) HN.out (zbC _) (by unfold maxLen;omega) (by omega) (by simp;omega) ?_);intro v' w2 hown' hgrow hnil hloc
      have HF:Hid (w2.ownsRow w.heap.size 5 1 v' E.length (zy E)/\Below w.heap.size w w2):=zzH ⟨by
       have e:E= [110,UInt8.ofNat xs.length,0]++xs:=by rw [HBG.out,HV2.out];rw [if_neg (by omega)];rfl
       rw [e,zeJ,zzq1];exact hown',HBL.out.grown hgrow (by simp;omega) (fun k hk=>(HLO.out.lt k hk).1)⟩
      clear hown' hgrow hnil hloc;go_wp2_with fail;go_ret;exact⟨_,rfl,HF.out⟩
def zez (code:List RIns) (i:Nat) (x:RIns) (g:Bool):Bool:=
 if x.op=39∨x.op=40 then wi x.to 0 ((code.length:Int)-1)&&(zgW code x.to==37)
 else x.cases.all (fun c=>wi c.to ((i:Int)+1) ((code.length:Int)-1))&&(!g||wi x.to ((i:Int)+1) ((code.length:Int)-1))
theorem zkT (code:List RIns) (i:Nat) (x:RIns) (h:Nat):zez code i x (zm h 64)=zb2 code i x h:=rfl
theorem zq7 {n a b:Int} (h:wi n a b=true):a<=n/\n<=b:=by
 exact zz55
theorem zo9 (w:World) (u:RUnit) (lo fo go co:Option Addr) (lc fc gc cc:Nat) (cs:Array Value):UBox ((w.alloc (.cells #[.string u.mdl,.int .i64 u.vsn,.slice lo u.lits.length lc,.slice fo u.funcs.length fc,.slice go u.funs.length gc,.slice co u.code.length cc] 28)).alloc (.cells cs 133)) w.heap.size u lo fo go co lc fc gc cc/\((w.alloc (.cells #[.string u.mdl,.int .i64 u.vsn,.slice lo u.lits.length lc,.slice fo u.funcs.length fc,.slice go u.funs.length gc,.slice co u.code.length cc] 28)).alloc (.cells cs 133)).heap[w.heap.size+1]?=some (.cells cs 133 (0,0))/\Below w.heap.size w ((w.alloc (.cells #[.string u.mdl,.int .i64 u.vsn,.slice lo u.lits.length lc,.slice fo u.funcs.length fc,.slice go u.funs.length gc,.slice co u.code.length cc] 28)).alloc (.cells cs 133)):=by
 have s:(w.alloc (.cells (zzu u lo lc fo fc go gc co cc) 28)).heap.size=w.heap.size+1:=by simp
 refine⟨⟨(Below.heap_alloc _ _ _ (by rw [s];omega)).trans (heap_alloc_new _ _)⟩,?_,((zzR _ _).alloc (zzL _) _).alloc (by rw [s];omega) _⟩;rw [<-s];exact heap_alloc_new _ _
theorem zkq (u:RUnit) (lo fo go co:Option Addr) (lc fc gc cc:Nat) (i:Nat) (r:RRow) (w:World) (hcode:SlAt w 10 (InsR w) co u.code) (hcl:u.code.length<=9223372036854775807) (hi:i<u.code.length):
  Calls Tryz.prog 78 #[.agg (zzu u lo lc fo fc go gc co cc),.int .i64 i,.agg r.val] w fun e w'=>e= .returned (.bool (zez u.code i u.code[i] r.g))/\Below w.heap.size w w':=by
 unfold zzu;obtain⟨a,b,c,d,e,f,g,h,l1,l2⟩:=r
 have HT:Hid (∀x g,zez u.code i x g=if x.op=39∨x.op=40 then wi x.to 0 ((u.code.length:Int)-1)&&(zgW u.code x.to==37)
  else x.cases.all (fun c=>wi c.to ((i:Int)+1) ((u.code.length:Int)-1))&&(!g||wi x.to ((i:Int)+1) ((u.code.length:Int)-1))):=zzH (fun x g=>rfl)
 have HTX0:=zzH (HT.out u.code[i] g);have HCO:=zzH hcode;clear hcode HT;generalize zez u.code i u.code[i] g=tv at *;have hw1:IntKind.i64.wrap ((u.code.length:Int)-1)=(u.code.length:Int)-1:=by rw [zzq3];omega
 have hw2:IntKind.i64.wrap ((i:Int)+1)=(i:Int)+1:=by rw [zzq3];omega
 simp only [RRow.val];go_in;go_upto_region 1 with fail;obtain⟨hU,hR,hBW⟩:=zo9 w u lo fo go co lc fc gc cc #[.bool a,.bool b,.bool c,.bool d,.bool e,.bool f,.bool g,.bool h,.int .i64 l1,.int .i64 l2];have HBW:=zzH hBW;clear hBW;generalize(w.alloc (.cells (zzu u lo lc fo fc go gc co cc) 28)).alloc (.cells #[.bool a,.bool b,.bool c,.bool d,.bool e,.bool f,.bool g,.bool h,.int .i64 l1,.int .i64 l2] 133)=W at *;obtain⟨bc,oc,so,co',go',sc,cc',gc',hco,hxb⟩:=ze4 (HCO.out.mono HBW.out fun _ _ hh=>hh.below HBW.out) hi;subst hco;have k0:=hxb.c0;have k1:=hxb.c1;have k2:=hxb.c2;have k3:=hxb.c3;have k4:=hxb.c4;have k5:=hxb.c5;have k6:=hxb.c6;have k7:=hxb.c7;have k8:=hxb.c8;have k9:=hxb.c9;have hkl:=hxb.lt;have HCS:=zzH hxb.cases;have s2:=hxb.rto;have s3:=hxb.rcases;clear hxb;have b5:=hU.c5;have hlu:=hU.lt;have HU:=zzH hU;have HRB:=zzH hR;clear hU hR;have HTX:=HTX0;clear HTX0;generalize u.code[i]=x at *;obtain⟨op,⟨dk,dn⟩,src,jt,nn,lv,nm,cases,segs⟩:=x;simp only at k0 k1 k2 k3 k4 k5 k6 k7 k8 k9 s2 s3 HCS HTX;generalize src.length=sl at *;generalize segs.length=gl at *;obtain⟨s2a,s2b⟩:=s2;generalize hBz:w.heap.size=B at *;have HBZ:=zzH hBz;clear hBz;go_upto_region 2 with fail;have hLx:=heap_alloc_new W (.cells #[.int .i64 op,.int .i64 dk,.int .i64 dn,.slice so sl sc,.int .i64 jt,.int .i64 nn,.int .i64 lv,.string nm,.slice co' cases.length cc',.slice go' gl gc'] 64);have hLb:=(zzR W.heap.size W).alloc (zzL _) (.cells #[.int .i64 op,.int .i64 dk,.int .i64 dn,.slice so sl sc,.int .i64 jt,.int .i64 nn,.int .i64 lv,.string nm,.slice co' cases.length cc',.slice go' gl gc'] 64);generalize hWxe:W.alloc (.cells #[.int .i64 op,.int .i64 dk,.int .i64 dn,.slice so sl sc,.int .i64 jt,.int .i64 nn,.int .i64 lv,.string nm,.slice co' cases.length cc',.slice go' gl gc'] 64)=Wx at *;have HLX:=zzH hLx;have HLB:=zzH hLb;clear hLx hLb hWxe k0 k1 k2 k3 k4 k5 k6 k7 k8 k9 b5 hlu hkl;generalize hLe:W.heap.size=LB at *;have HLE:=zzH hLe;clear hLe;have HFIN:Hid (∀wx,Below Wx.heap.size Wx wx->Below B w wx):=zzH (fun wx hh=>HBW.out.trans ((HLB.out.trans (hh.mono (by have:=HLB.out.size;have:=HLE.out;omega))).mono (by have:=HBW.out.size;have:=HBZ.out;have:=HLE.out;omega)));have hL2:=((zzR Wx.heap.size Wx).block LB (zc HLX.out)).trans HLX.out;have hLl:=zc hL2;have e0:Wx.cell? ⟨LB,0,none⟩=some (.int .i64 op):=by rw [zzq2 _ _ _ _ _ _ hL2];rfl
 have e4:Wx.cell? ⟨LB,4,none⟩=some (.int .i64 jt):=by rw [zzq2 _ _ _ _ _ _ hL2];rfl
 have e8:Wx.cell? ⟨LB,8,none⟩=some (.slice co' cases.length cc'):=by rw [zzq2 _ _ _ _ _ _ hL2];rfl
 have hWB:Below W.heap.size W Wx:=by rw [HLE.out];exact HLB.out.trans ((zzR Wx.heap.size Wx).mono (by have:=HLB.out.size;have:=HLE.out;omega))
 have b5:=(HU.out.below hWB).c5;have hlu:=(HU.out.below hWB).lt;have hR2:=(hWB.block _ (zc HRB.out)).trans HRB.out;have hlr:=zc hR2;have q6:Wx.cell? ⟨B+1,6,none⟩=some (.bool g):=by rw [zzq2 _ _ _ _ _ _ hR2];rfl
 clear hL2 hWB hR2;by_cases hop:op=39∨op=40
 ·rw [if_pos hop]at HTX
  have HOP:=zzH hop
  cases hv:wi jt 0 ((u.code.length:Int)-1)with
  |false=>
   have E:Hid (tv=false):=zzH (by rw [HTX.out,hv];rfl)
   have hwr: ∀wx,Calls Tryz.prog 99 #[.int .i64 jt,.int .i64 0,.int .i64 ((u.code.length:Int)-1)] wx fun e w'=>e= .returned (.bool false)/\w=w/\wx=w':=fun wx=>by
    have:=zO jt 0 ((u.code.length:Int)-1) wx;rw [hv]at this;exact this.mono fun _ _ ⟨a,b⟩=>⟨a,rfl,b⟩
   have HWR:=zzH hwr;clear hv hwr hop;exact zz193
  |true=>
   have hr:=zq7 hv;obtain⟨m,rfl⟩:=Int.eq_ofNat_of_zero_le hr.1;have hml:m<u.code.length:=by omega
   have hwr: ∀wx,Calls Tryz.prog 99 #[.int .i64 (m:Int),.int .i64 0,.int .i64 ((u.code.length:Int)-1)] wx fun e w'=>e= .returned (.bool true)/\w=w/\wx=w':=fun wx=>by
    have:=zO (m:Int) 0 ((u.code.length:Int)-1) wx;rw [hv]at this;exact this.mono fun _ _ ⟨a,b⟩=>⟨a,rfl,b⟩
   have HWR:=zzH hwr;obtain⟨bc',oc',_,_,_,_,_,_,hco2,hxb2⟩:=ze4 (HCO.out.mono (by rw [HBZ.out];exact HFIN.out _ (zzR _ _)) fun _ _ hh=>hh.below (by rw [HBZ.out];exact HFIN.out _ (zzR _ _))) hml;obtain⟨rfl,rfl⟩:bc=bc'/\oc=oc':=by injection hco2 with e9;injection e9 with e1 e2;exact⟨e1,e2⟩
   have z0:=hxb2.c0;have hzl:=hxb2.lt;have hoa:zgW u.code (m:Int)=u.code[m].op:=by unfold zgW;rw [zzq11,zzq8 hml];rfl
   have HTX2:Hid (tv=(u.code[m].op==37)):=zzH (by rw [HTX.out,hv,hoa];rfl);clear hv hwr hop hr hco2 hxb2 hoa;generalize u.code[m].op=op2 at *
   cases hq:(op2==37)with
   |false=>
    have E:Hid (tv=false):=zzH (by rw [HTX2.out,hq]);exact zz193
   |true=>
    have E:Hid (tv=true):=zzH (by rw [HTX2.out,hq]);exact zz193
 ·rw [if_neg hop]at HTX
  have p1:(op==39)=false:=zzB.2 (fun h=>hop (.inl h));have p2:(op==40)=false:=zzB.2 (fun h=>hop (.inr h));clear hop;go_wp2_with fail;go_loopw [8] (fun kv wr=> ∃k:Nat,k<=cases.length/\kv= .int .i64 k/\Hid (∀j (hj:j<cases.length),j<k->wi cases[j].to ((i:Int)+1) ((u.code.length:Int)-1)=true)/\Hid (Below Wx.heap.size Wx wr)) (fun kv _=>cases.length-(intOf kv).toNat)
  case atStart=>exact⟨0,zzZ _,rfl,zzH (fun j _ hj=>absurd hj (Nat.not_lt_zero _)),zzH (zzR _ _)⟩
  case round=>
   obtain⟨k,hk,rfl,HK,HBk⟩:=hrel;rename World=>wr
   clear e0 e4 e8 q6 b5;have hL2:=(HBk.out.block LB (zc HLX.out)).trans HLX.out;have hLl:=zc hL2;have e0:wr.cell? ⟨LB,0,none⟩=some (.int .i64 op):=by rw [zzq2 _ _ _ _ _ _ hL2];rfl
   have e4:wr.cell? ⟨LB,4,none⟩=some (.int .i64 jt):=by rw [zzq2 _ _ _ _ _ _ hL2];rfl
   have e8:wr.cell? ⟨LB,8,none⟩=some (.slice co' cases.length cc'):=by rw [zzq2 _ _ _ _ _ _ hL2];rfl
   have hWB:Below W.heap.size W wr:=by rw [HLE.out];exact HLB.out.trans (HBk.out.mono (by have:=HLB.out.size;have:=HLE.out;omega))
   have b5:=(HU.out.below hWB).c5;have hlu:=(HU.out.below hWB).lt;have hR2:=(hWB.block _ (zc HRB.out)).trans HRB.out;have hlr:=zc hR2;have q6:wr.cell? ⟨B+1,6,none⟩=some (.bool g):=by rw [zzq2 _ _ _ _ _ _ hR2];rfl
   clear hL2 hWB hR2;by_cases hkl:k<cases.length
   ·obtain⟨b2,off,hao,hb2,q0,q1,i0,i1⟩:=(HCS.out.mono (by rw [HLE.out];exact HLB.out.trans (HBk.out.mono (by have:=HLB.out.size;have:=HLE.out;omega))) fun _ _ h=>h).case hkl
    subst hao
    have HE:Hid (wi cases[k].to ((i:Int)+1) ((u.code.length:Int)-1)=false->tv=false):=zzH (fun hf=>by
     have:cases.all (fun c=>wi c.to ((i:Int)+1) ((u.code.length:Int)-1))=false:=by
      rw [List.all_eq_false];exact⟨cases[k],List.getElem_mem hkl,by rw [hf];decide⟩
     rw [HTX.out,this];rfl)
    have HN:Hid (wi cases[k].to ((i:Int)+1) ((u.code.length:Int)-1)=true-> ∀j (hj:j<cases.length),j<k+1->wi cases[j].to ((i:Int)+1) ((u.code.length:Int)-1)=true):=zzH (fun hne j hj hjk=>by
     rcases Nat.eq_or_lt_of_le (Nat.le_of_lt_succ hjk)with e9|e9
     ·subst e9;exact hne
     ·exact HK.out j hj e9)
    generalize cases[k]=ca at *;have hwr: ∀wx,Calls Tryz.prog 99 #[.int .i64 ca.to,.int .i64 ((i:Int)+1),.int .i64 ((u.code.length:Int)-1)] wx fun e w'=>e= .returned (.bool (wi ca.to ((i:Int)+1) ((u.code.length:Int)-1)))/\w'=wx:=fun wx=>(zO ca.to ((i:Int)+1) ((u.code.length:Int)-1) wx).mono fun _ _ ⟨a,b⟩=>⟨a,b.symm⟩
    cases hv:wi ca.to ((i:Int)+1) ((u.code.length:Int)-1)with
    |false=>
     have E:=zzH (HE.out hv);rw [hv]at hwr;clear hv HE HN;go_wp2_with fail;go_quiet ((go_at_call 99;exact Calls.quiet_of_same (hwr _)));go_wp2_with fail;go_ret;exact⟨zr E.out.symm,by rw [HBZ.out];exact HFIN.out _ (zY HBk.out _)⟩
    |true=>
     have HN2:=zzH (HN.out hv);rw [hv]at hwr;clear hv HE HN;go_wp2_with fail;go_quiet ((go_at_call 99;exact Calls.quiet_of_same (hwr _)));go_wp2_with fail;go_roundw
     case rel=>exact⟨k+1,by omega,by go_num,HN2,zzH (zY HBk.out _)⟩
     case measure=>simp [intOf];omega
   ·have HALL:Hid (cases.all (fun c=>wi c.to ((i:Int)+1) ((u.code.length:Int)-1))=true):=zzH (by
     rw [List.all_eq_true];intro ca ha;obtain⟨j,hj,rfl⟩:=List.getElem_of_mem ha;exact HK.out j hj (by omega))
    have HTX2:Hid (tv=(!g||wi jt ((i:Int)+1) ((u.code.length:Int)-1))):=zzH (by rw [HTX.out,HALL.out];rfl);clear HALL HTX
    cases g with
    |false=>
     have E:Hid (tv=true):=zzH (by rw [HTX2.out];rfl);exact zz192
    |true=>
     have E:Hid (tv=wi jt ((i:Int)+1) ((u.code.length:Int)-1)):=zzH (by rw [HTX2.out];rfl);go_wp2_with fail;refine(zO _ _ _ _).mono ?_;rintro e9 w1 ⟨rfl,rfl⟩;exact zz192
end Go.Proofs.YtlaabicdhkebbaaGreatDoor
