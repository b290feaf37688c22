import Derived.Test.YthajedcbgnloeaaGreatDoorW05
import Derived.Test.YthajedcbgnloeaaGreatDoorW07
namespace Go.Proofs.YthajedcbgnloeaaGreatDoor
open Go.RowKit
set_option linter.unusedVariables false
set_option linter.unusedSimpArgs false
set_option maxRecDepth 100000
set_option maxHeartbeats 0
theorem ziO: ∀(f:Nat) (ao:zzA) (c:Nat) (l:List Tm) (m:Int) (w:World),SlAt w 9 (TmAt w f) ao l->l.length<=maxLen-> -1<=m->m<=1000000 ->
  Calls Tryz.prog 21 #[.slice ao l.length c,.int .i64 m] w fun e w'=>e= .returned (.int .i64 (zbG f l m))/\Below w.heap.size w w'
 |0,ao,c,l,m,w,h,hl,h0,h1=>by
  obtain rfl:=h.zero;have HE:Hid (zbG 0 [] m=m):=zzH rfl;go_in;go_wp2_with fail;go_loop [1,5] (fun mv i=>mv= .int .i64 m/\i= .int .i64 0) (fun _ _=>0)
  case atStart=>exact⟨rfl,rfl⟩
  case round=>
   obtain⟨rfl,rfl⟩:=hrel;go_wp2;go_ret;exact⟨zcF HE.out.symm,zzR _ _⟩
 |f+1,ao,c,l,m,w,h,hl,h0,h1=>by
  have IH:=zzH (ziO f);have HS:=zzH h;have HV:Hid (zbG (f+1) l m=zcZ (zbG f) l m):=zzH rfl;have HM:=zzH (zeT f);clear h;unfold maxLen at hl;go_in;go_wp2_with fail;go_loopw [1,5] (fun mv i wr=> ∃(k:Nat) (m':Int),k<=l.length/\i= .int .i64 k/\mv= .int .i64 m'/\ -1<=m'/\m'<=1000000/\Hid (zcZ (zbG f) l m=zcZ (zbG f) (l.drop k) m')/\Below w.heap.size w wr) (fun _ i _=>l.length-(intOf i).toNat)
  case atStart=>exact⟨0,m,zzZ _,rfl,rfl,h0,h1,zzH rfl,zzR _ _⟩
  case round=>
   obtain⟨k,m',hk,rfl,rfl,g0,g1,HG,hB⟩:=hrel;rename World=>wr
   by_cases hlt:k<l.length
   ·by_cases hm:0<=m'
    ·have hs2:=HS.out.tms hB
     obtain⟨b,off,ai,ci,hao,hb,q0,q1,q2,q3,q4,q5,q6,q7,q8,hit,hok⟩:=hs2.tm hlt;subst hao;have hlong:=zlO (rec:=zbG f) hlt hm;have hnext:=zkU (rec:=zbG f) hlt hm;have HL1:=zzH hlong;have HL2:=zzH hnext;clear hlong hnext hs2;obtain⟨_,_,_,o3,o4,_,o6,o7,_⟩:=hok;unfold maxLen at o3 o4 o6 o7;generalize l[k]=t at *;have HIT:=zzH hit;clear hit;by_cases c1:m'<t.name.size
     ·have E:Hid (zbG (f+1) l m= -1):=zzH (by rw [HV.out,HG.out,HL1.out (.inl c1)])
      exact zz2
     ·by_cases c2:m'<t.func.size
      ·have E:Hid (zbG (f+1) l m= -1):=zzH (by rw [HV.out,HG.out,HL1.out (.inr (.inl c2))])
       exact zz2
      ·by_cases c3:m'<t.bytes.size
       ·have E:Hid (zbG (f+1) l m= -1):=zzH (by rw [HV.out,HG.out,HL1.out (.inr (.inr c3))])
        exact zz2
       ·have E:=zzH (HL2.out (by omega))
        have hBa:=hB.alloc hB.size (.cells #[.int .i64 t.kind,.int .i64 t.int,.int .i64 t.gen,.string t.name,.string t.func,.int .i64 t.arity,.slice ai t.items.length ci,.string t.bytes,.int .i64 t.bits] 110);have HIT2:=zzH (SlAt.tms HIT.out ((zzR wr.heap.size wr).alloc (zzL _) (.cells #[.int .i64 t.kind,.int .i64 t.int,.int .i64 t.gen,.string t.name,.string t.func,.int .i64 t.arity,.slice ai t.items.length ci,.string t.bytes,.int .i64 t.bits] 110)));have HM2:=HM.out t.items (m'-1-t.name.size/8-t.func.size/8-t.bytes.size/8) (by omega);generalize hn1:zbG f t.items (m'-1-t.name.size/8-t.func.size/8-t.bytes.size/8)=n1 at *;have HN1:=zzH hn1;clear hn1;go_wp2_with fail;refine(IH.out ai ci t.items _ _ HIT2.out (by unfold maxLen;omega) (by omega) (by omega)).mono ?_;rintro e w5 ⟨rfl,hb5⟩;rw [HN1.out];go_wp2_with fail;go_roundw
        case rel=>exact⟨k+1,n1,by omega,by go_num,rfl,by omega,by omega,zzH (by rw [HG.out,E.out]),ze hBa hb5⟩
        case measure=>simp [intOf];omega
    ·have E:Hid (zbG (f+1) l m=m'):=zzH (by rw [HV.out,HG.out,zhs (.inr (by omega))])
     go_wp2;go_ret;exact⟨zcF E.out.symm,hB⟩
   ·have E:Hid (zbG (f+1) l m=m'):=zzH (by rw [HV.out,HG.out,zhs (.inl (by rw [List.drop_eq_nil_iff];omega))])
    go_wp2;go_ret;exact⟨zcF E.out.symm,hB⟩
theorem znx (f:Nat) (ao:zzA) (c:Nat) (l:List Tm) (m:Int) (w:World) (h:SlAt w 9 (TmAt w f) ao l) (hl:l.length<=maxLen) (h0: -1<=m) (h1:m<=1000000):
  Calls Tryz.prog 12 #[.slice ao l.length c,.int .i64 m] w fun e w'=>e= .returned (.bool (decide (zbG f l m<0)))/\Below w.heap.size w w':=by
 have hc:=ziO f ao c l m w h hl h0 h1;have hle:=zeT f l m h0;generalize zbG f l m=n at *;go_in;go_wp2_with fail;refine hc.mono ?_;rintro e w1 ⟨rfl,hb1⟩;go_wp2;go_ret;exact⟨rfl,hb1⟩
theorem ziA {p:Prop} [Decidable p] {e:Int} (h:p):(if(true:Bool)=true then e else 0)=if p then e else 0:=by rw [if_pos h];rfl
theorem zjk {p:Prop} [Decidable p] {e:Int} (h: ¬p):(if(false:Bool)=true then e else 0)=if p then e else 0:=by rw [if_neg h];rfl
theorem zk1 (E U mb p b o:Nat) (at':Int) (u:RUnit) (lo fo go co:zzA) (lc fc gc cc mc:Nat) (x:RIns) (s:VSt) (so co' go':zzA) (sc cc' gc':Nat) (w:World) (hx:VCx w E U mb at' u lo fo go co lc fc gc cc mc) (hi:IBox w b o x so co' go' sc cc' gc') (hs:StAt w p s) (ho:StOk s) (hl:zcU u)
  (hn:x.op=5->0<=x.n/\x.n<=254) (hsrc:x.op=5\/x.op=6\/x.op=7->0<x.src.length/\ArgOk u s (zB x)):
  Calls Tryz.prog 57 #[.pointer (some ⟨E,0,none⟩),.pointer (some ⟨p,0,none⟩),.pointer (some ⟨b,o,none⟩)] w fun e w'=>e= .returned (.int .i64 (zcq u s x))/\Below w.heap.size w w':=by
 have i0:=hi.c0;have i3:=hi.c3;have i5:=hi.c5;refine zzK3 hi hx hs fun HI HX HS=>?_;have HR:Hid (zcq u s x=if x.op=5 then(if zcj u s (zB x)<3+x.n+1 then 180 else 0)else if x.op=6\/x.op=7 then(if zcj u s (zB x)≠2 then 180 else 0)else 0):=zzH rfl;generalize zcq u s x=R at *;clear hx hs;by_cases h5:x.op=5\/x.op=6\/x.op=7
 ·obtain⟨hl0,hao⟩:=hsrc h5
  obtain⟨sb,off,rfl,hsb,q0,q1,-,-⟩:=hi.src.arg hl0
  have hsrc0:zB x=x.src[0]:=by
   exact zz82
  have hkind:=fun(wx:World) (hb:Below w.heap.size w wx)=>zge E U mb p at' u lo fo go co lc fc gc cc mc s (zB x) wx (HX.out.below hb) (HS.out.below hb) ho hao hl
  rw [<-hsrc0]at q0 q1;simp only [Nat.zero_mul,Nat.add_zero]at q0 q1;have HK:=zzH hkind;have hn5:=hn;clear hkind hi hn hsrc hao hsrc0;generalize zcj u s (zB x)=kt at *;generalize zB x=a at *;have hI1:(0:Int)<(x.src.length:Int):=by omega
  generalize x.src.length=sl at *;generalize hop:x.op=op at *;clear hop;by_cases c5:op=5
  ·subst c5
   obtain⟨g1,g2⟩:=hn5 rfl;have HR2:Hid (R=if kt<3+x.n+1 then 180 else 0):=zzH (by rw [HR.out,if_pos rfl]);have hw1:IntKind.i64.wrap (3+x.n)=3+x.n:=by rw [zzq2];omega
   have hw2:IntKind.i64.wrap (3+x.n+1)=3+x.n+1:=by rw [zzq2];omega
   clear HR h5 hn5;by_cases d:kt<3+x.n+1
   ·have t0:decide (kt<3+x.n+1)=true:=zzT d
    have HR3:=zzH ((ziA (e:=180) d).trans HR2.out.symm);exact zz81
   ·have t0:decide (kt<3+x.n+1)=false:=zzD d
    have HR3:=zzH ((zjk (e:=180) d).trans HR2.out.symm);exact zz81
  ·have c67:op=6\/op=7:=by omega
   have HR2:Hid (R=if kt≠2 then 180 else 0):=zzH (by rw [HR.out,if_neg c5,if_pos c67]);clear HR h5 hn5 c5 i5;by_cases d:kt≠2
   ·have t0 : (kt != 2) = true := by simpa using d
    have HR3:=zzH ((ziA (e:=180) d).trans HR2.out.symm);exact zz80
   ·have t0 : (kt != 2) = false := by simpa using d
    have HR3:=zzH ((zjk (e:=180) d).trans HR2.out.symm);exact zz80
 ·have HR2:Hid (R=0):=zzH (by rw [HR.out,if_neg (by omega),if_neg (by omega)])
  have t1:(x.op==5)=false:=by rw [zzq1];omega
  have t2:(x.op==6)=false:=by rw [zzq1];omega
  have t3:(x.op==7)=false:=by rw [zzq1];omega
  clear h5 HR hsrc hn hi;generalize x.op=op at *;exact zz83
theorem zlt {op:Int} (h:zfA op=true):op=1\/op=5\/op=6\/op=7\/op=8\/op=9\/op=10\/op=11\/op=12\/op=13\/op=30\/op=31\/op=32\/op=33\/op=34:=by
 have:=zza h
 simpa using this
theorem zi7 (E p b o:Nat) (x:RIns) (s:VSt) (so co' go':zzA) (sc cc' gc':Nat) (w:World) (hi:IBox w b o x so co' go' sc cc' gc') (hs:StAt w p s):
  Calls Tryz.prog 58 #[.pointer (some ⟨E,0,none⟩),.pointer (some ⟨p,0,none⟩),.pointer (some ⟨b,o,none⟩)] w fun e w'=>e= .returned (.int .i64 (zcp s x))/\w'=w:=by
 have i0:=hi.c0;obtain⟨xo,xc,yo,yc,to',tc,c0,c1,c2,c3,c4,c5,c6,hL⟩:=hs.cells;have HR:Hid (zcp s x=if x.op=37\/x.op=40 then(if s.recv≠1 then 184 else 0)else if x.op=38\/x.op=39 then(if s.recv≠2 then 184 else 0)else if zfA x.op=true then 0 else if s.recv≠0 then 184 else 0):=zzH rfl;generalize zcp s x=R at *;clear hi hs hL c0 c1 c2 c3 c4 c6;generalize s.recv=rc at *;generalize x.op=op at *;by_cases h1:op=37\/op=40
 ·have HR2:Hid (R=if rc≠1 then 184 else 0):=zzH (by rw [HR.out,if_pos h1])
  clear HR;by_cases d:rc≠1
  ·have t0 : (rc != 1) = true := by simpa using d
   have HR3:=zzH ((ziA (e:=184) d).trans HR2.out.symm);exact zz84
  ·have t0 : (rc != 1) = false := by simpa using d
   have HR3:=zzH ((zjk (e:=184) d).trans HR2.out.symm);exact zz84
 ·have s1:(op==37)=false:=by rw [zzq1];omega
  have s2:(op==40)=false:=by rw [zzq1];omega
  by_cases h2:op=38\/op=39
  ·have HR2:Hid (R=if rc≠2 then 184 else 0):=zzH (by rw [HR.out,if_neg h1,if_pos h2])
   clear HR h1;by_cases d:rc≠2
   ·have t0 : (rc != 2) = true := by simpa using d
    have HR3:=zzH ((ziA (e:=184) d).trans HR2.out.symm);exact zz85
   ·have t0 : (rc != 2) = false := by simpa using d
    have HR3:=zzH ((zjk (e:=184) d).trans HR2.out.symm);exact zz85
  ·have s3:(op==38)=false:=by rw [zzq1];omega
   have s4:(op==39)=false:=by rw [zzq1];omega
   by_cases h3:zfA op=true
   ·have HR2:Hid (R=0):=zzH (by rw [HR.out,if_neg h1,if_neg h2,if_pos h3])
    clear HR h1 h2 c5;rcases zlt h3 with rfl|rfl|rfl|rfl|rfl|rfl|rfl|rfl|rfl|rfl|rfl|rfl|rfl|rfl|rfl
    all_goals
     go_in;go_wp2;go_ret;exact⟨zY HR2.out.symm,rfl⟩
   ·have HR2:Hid (R=if rc≠0 then 184 else 0):=zzH (by rw [HR.out,if_neg h1,if_neg h2,if_neg h3])
    have ho: ¬(op=1\/op=5\/op=6\/op=7\/op=8\/op=9\/op=10\/op=11\/op=12\/op=13\/op=30\/op=31\/op=32\/op=33\/op=34):=fun g=>h3 (zzT (by simpa using g))
    have u0:(op==1)=false:=by rw [zzq1];omega
    have u1:(op==5)=false:=by rw [zzq1];omega
    have u2:(op==6)=false:=by rw [zzq1];omega
    have u3:(op==7)=false:=by rw [zzq1];omega
    have u4:(op==8)=false:=by rw [zzq1];omega
    have u5:(op==9)=false:=by rw [zzq1];omega
    have u6:(op==10)=false:=by rw [zzq1];omega
    have u7:(op==11)=false:=by rw [zzq1];omega
    have u8:(op==12)=false:=by rw [zzq1];omega
    have u9:(op==13)=false:=by rw [zzq1];omega
    have u10:(op==30)=false:=by rw [zzq1];omega
    have u11:(op==31)=false:=by rw [zzq1];omega
    have u12:(op==32)=false:=by rw [zzq1];omega
    have u13:(op==33)=false:=by rw [zzq1];omega
    have u14:(op==34)=false:=by rw [zzq1];omega
    clear HR h1 h2 h3 ho;by_cases d:rc≠0
    ·have t0 : (rc != 0) = true := by simpa using d
     have HR3:=zzH ((ziA (e:=184) d).trans HR2.out.symm);exact zz86
    ·have t0 : (rc != 0) = false := by simpa using d
     have HR3:=zzH ((zjk (e:=184) d).trans HR2.out.symm);exact zz86
theorem zjL (E p b o:Nat) (x:RIns) (s:VSt) (so co' go':zzA) (sc cc' gc':Nat) (w:World) (hi:IBox w b o x so co' go' sc cc' gc') (hs:StAt w p s):
  Calls Tryz.prog 59 #[.pointer (some ⟨E,0,none⟩),.pointer (some ⟨p,0,none⟩),.pointer (some ⟨b,o,none⟩)] w fun e w'=>e= .returned (.int .i64 (zda s x))/\w'=w:=by
 have i0:=hi.c0;obtain⟨xo,xc,yo,yc,to',tc,c0,c1,c2,c3,c4,c5,c6,hL⟩:=hs.cells;have HR:Hid (zda s x=if s.mt=false/\31<=x.op/\x.op<=34 then 183 else 0):=zzH rfl;generalize zda s x=R at *;clear hi hs hL c0 c1 c2 c3 c5 c6;generalize s.mt=mt at *;generalize x.op=op at *
 cases mt with
 |true=>
  have HR2:Hid ((0:Int)=R):=zzH (by rw [HR.out,if_neg (by simp)]);clear HR;exact zz88
 |false=>
  by_cases h1:31<=op
  ·have t1:decide (31<=op)=true:=zzT h1
   by_cases h2:op<=34
   ·have t2:decide (op<=34)=true:=zzT h2
    have HR2:Hid ((183:Int)=R):=zzH (by rw [HR.out,if_pos ⟨rfl,h1,h2⟩]);exact zz87
   ·have t2:decide (op<=34)=false:=zzD h2
    have HR2:Hid ((0:Int)=R):=zzH (by rw [HR.out,if_neg (fun g=>h2 g.2.2)]);exact zz87
  ·have t1:decide (31<=op)=false:=zzD h1
   have HR2:Hid ((0:Int)=R):=zzH (by rw [HR.out,if_neg (fun g=>h1 g.2.1)]);clear HR h1;exact zz88
theorem zkd (E p b o:Nat) (x:RIns) (s:VSt) (so co' go':zzA) (sc cc' gc':Nat) (w:World) (hi:IBox w b o x so co' go' sc cc' gc') (hs:StAt w p s):
  Calls Tryz.prog 61 #[.pointer (some ⟨E,0,none⟩),.pointer (some ⟨p,0,none⟩),.pointer (some ⟨b,o,none⟩)] w fun e w'=>e= .returned (.int .i64 (zc4 s x))/\w'=w:=by
 have i0:=hi.c0;obtain⟨xo,xc,yo,yc,to',tc,c0,c1,c2,c3,c4,c5,c6,hL⟩:=hs.cells;have HR:Hid (zc4 s x=if 0<=s.frame/\(x.op=24\/zbi x.op=true)\/s.frame<0/\x.op=25 then 181 else 0):=zzH rfl;have hlv:=fun wx=>zfd x.op wx
 generalize zc4 s x=R at *;clear hi hs hL c1 c2 c3 c4 c5 c6;generalize s.frame=fr at *;generalize zbi x.op=lv at *;generalize x.op=op at *;have HLV:=zzH hlv;clear hlv;by_cases h1:0<=fr
 ·have t1:decide (0<=fr)=true:=zzT h1
  by_cases h2:op=24
  ·have t2:(op==24)=true:=zzl.2 h2
   have HR2:Hid ((181:Int)=R):=zzH (by rw [HR.out,if_pos (.inl ⟨h1,.inl h2⟩)]);exact zz89
  ·have t2:(op==24)=false:=zzB.2 h2
   cases lv with
   |true=>
    have HR2:Hid ((181:Int)=R):=zzH (by rw [HR.out,if_pos (.inl ⟨h1,.inr rfl⟩)]);exact zz89
   |false=>
    have HR2:Hid ((0:Int)=R):=zzH (by rw [HR.out,if_neg (by rintro(⟨-,g|g⟩|⟨g,-⟩);exact h2 g;cases g;omega)]);exact zz89
 ·have t1:decide (0<=fr)=false:=zzD h1
  by_cases h2:op=25
  ·have t2:(op==25)=true:=zzl.2 h2
   have HR2:Hid ((181:Int)=R):=zzH (by rw [HR.out,if_pos (.inr ⟨by omega,h2⟩)]);exact zz89
  ·have t2:(op==25)=false:=zzB.2 h2
   have HR2:Hid ((0:Int)=R):=zzH (by rw [HR.out,if_neg (by rintro(⟨g,-⟩|⟨-,g⟩);exact h1 g;exact h2 g)]);exact zz89
theorem zjU (E U mb p b o i:Nat) (u:RUnit) (lo fo go co:zzA) (lc fc gc cc mc:Nat) (x:RIns) (s:VSt) (so co' go':zzA) (sc cc' gc':Nat) (w:World) (hx:VCx w E U mb i u lo fo go co lc fc gc cc mc) (hi:IBox w b o x so co' go' sc cc' gc') (hs:StAt w p s) (ls:VLen s):
  Calls Tryz.prog 63 #[.pointer (some ⟨E,0,none⟩),.pointer (some ⟨p,0,none⟩),.pointer (some ⟨b,o,none⟩)] w fun e w'=>e= .returned (.int .i64 (zde i s x))/\ ∃q,w'=w.drewN q:=by
 have i0:=hi.c0;have x2:=hx.e2;have lt:=ls.t;obtain⟨xo,xc,yo,yc,to',tc,c0,c1,c2,c3,c4,c5,c6,hL⟩:=hs.cells;have HR:Hid (zde i s x=if s.tries.length=0 then(if x.op=29 then 182 else 0)else if zbi x.op=true\/zbu x.op=true/\zcn s.tries<=i then 182 else 0):=zzH rfl;have hlv:=fun wx=>zfd x.op wx
 have hrs: ∀wx,Calls Tryz.prog 64 #[.int .i64 x.op] wx fun e w'=>e= .returned (.bool (zbu x.op))/\w'=wx:=fun wx=>(zg4 x.op wx).mono fun _ _ ⟨a,b⟩=>⟨a,b.symm⟩
 generalize zde i s x=R at *;clear hi hs hx c0 c1 c2 c4 c5 c6;generalize zbi x.op=lv at *;generalize zbu x.op=rs at *;generalize x.op=op at *;have HLV:=zzH hlv;have HRS:=zzH hrs;clear hlv hrs;by_cases h0:s.tries.length=0
 ·have t0:((s.tries.length:Int)==0)=true:=by rw [beq_iff_eq];omega
  by_cases h1:op=29
  ·have t1:(op==29)=true:=zzl.2 h1
   have HR2:Hid ((182:Int)=R):=zzH (by rw [HR.out,if_pos h0,if_pos h1]);exact zz92
  ·have t1:(op==29)=false:=zzB.2 h1
   have HR2:Hid ((0:Int)=R):=zzH (by rw [HR.out,if_pos h0,if_neg h1]);exact zz92
 ·have t0:((s.tries.length:Int)==0)=false:=by rw [zzq1];omega
  obtain⟨n,hn⟩: ∃n,s.tries.length=n+1:=⟨s.tries.length-1,by omega⟩;obtain⟨tb,tf,rfl,htb,z⟩:=hL.t.cell (k:=n) (by omega);have hlast:zcn s.tries=s.tries.getD n 0:=by unfold zcn;rw [hn];rfl
  have HR1:Hid (R=if lv=true\/rs=true/\zcn s.tries<=i then 182 else 0):=zzH (by rw [HR.out,if_neg h0]);rw [hlast]at HR1;generalize s.tries.getD n 0=l at *;have hw:IntKind.i64.wrap (((n+1:Nat):Int)-1)=(n:Int):=by rw [zzq2];omega
  rw [hn]at c3 t0 lt;clear HR h0 hL hn hlast;have hI0:(0:Int)<=(n:Int):=by omega
  have hI1:(n:Int)<((n+1:Nat):Int):=by omega
  cases lv with
  |true=>
   have HR2:Hid ((182:Int)=R):=zzH (by rw [HR1.out,if_pos (.inl rfl)]);exact zz91
  |false=>
   cases rs with
   |false=>
    have HR2:Hid ((0:Int)=R):=zzH (by rw [HR1.out,if_neg (by simp)]);exact zz91
   |true=>
    by_cases h2:l<=(i:Int)
    ·have t2:decide (l<=(i:Int))=true:=zzT h2
     have HR2:Hid ((182:Int)=R):=zzH (by rw [HR1.out,if_pos (.inr ⟨rfl,h2⟩)]);exact zz90
    ·have t2:decide (l<=(i:Int))=false:=zzD h2
     have HR2:Hid ((0:Int)=R):=zzH (by rw [HR1.out,if_neg (by rintro(g|g);cases g;exact h2 g.2)]);exact zz90
theorem zmW (E U mb p k:Nat) (at':Int) (u:RUnit) (lo fo go co:zzA) (lc fc gc cc mc:Nat) (s:VSt) (M:Nat->Option VM) (cs:Array Value) (g:Nat->Nat) (w:World) (hx:VCx w E U mb at' u lo fo go co lc fc gc cc mc) (hm:MeetAt w mb u.code.length M cs g) (hs:StAt w p s) (ls:VLen s) (hk:k<u.code.length) (hv: ∀m,M k=some m->VLen m.st):
  Calls Tryz.prog 69 #[.pointer (some ⟨E,0,none⟩),.pointer (some ⟨p,0,none⟩),.int .i64 k] w fun e w'=>e= .returned (.int .i64 (if zce (stM M k) s=true then 184 else 0))/\ ∃n,w'=w.drewN n:=by
 obtain⟨pv,av,wv,f0,f1,f2,h1⟩:=hm.one k hk;have e1:=hx.e1;have q0:w.cell? ⟨mb,k*3,none⟩=some pv:=by rw [zzq0 _ _ _ _ _ _ hm.row];exact f0
 obtain⟨xo,xc,yo,yc,to',tc,c0,c1,c2,c3,c4,c5,c6,hL⟩:=hs.cells;have hT:=zzH hL.t;have l1:=ls.t;have hkz:(0:Int)<=(k:Int):=by omega
 have hkl:(k:Int)<(u.code.length:Int):=by omega
 have hmk:M k=M k:=rfl;revert hmk;generalize hMk:M k=mo at h1;intro _;have hv':=fun m h=>hv m (hMk.trans h)
 have hR:zce (stM M k) s=zce (mo.map VM.st) s:=by unfold stM;rw [hMk]
 rw [hR];obtain⟨V,hV⟩: ∃V:Int,V=(if zce (mo.map VM.st) s=true then 184 else 0):=⟨_,rfl⟩;rw [<-hV];have HV:=zzH hV;clear hV;clear c1 c2 c4 c5 hm hx hs ls f0 f1 f2 hL hv hMk hR
 cases mo with
 |none=>
  obtain⟨rfl,-,-⟩:=h1;have HR:Hid (V=184):=zzH (by rw [HV.out];rfl);clear HV;clear c0 c3 c6;exact zz93
 |some m=>
  obtain⟨⟨b,rfl,hb⟩,-,-⟩:=h1;obtain⟨xo2,xc2,yo2,yc2,to2,tc2,d0,d1,d2,d3,d4,d5,d6,hL2⟩:=hb.cells;have hT2:=zzH hL2.t;have l2:=(hv' m rfl).t;have E:Hid (V=if m.st.frame≠s.frame\/m.st.frm≠s.frm\/m.st.tries≠s.tries then 184 else 0):=zzH (by rw [HV.out];unfold zce;simp);unfold zdJ at q0;clear d1 d2 d4 d5 hL2 hb hv';clear HV;generalize s.frame=a1 at *;generalize m.st.frame=a2 at *;generalize s.frm=g1 at *;generalize m.st.frm=g2 at *;generalize s.tries=t1 at *;generalize m.st.tries=t2 at *;by_cases h1:a2=a1
  ·have b1:=zcQ h1
   by_cases h2:g2=g1
   ·have b2:=zcQ h2
    have hE: ∀wx:World,wx.heap=w.heap->Calls Tryz.prog 96 #[.slice to2 t2.length tc2,.slice to' t1.length tc] wx fun e w'=>e= .returned (.bool (decide (t2=t1)))/\ ∃q,w'=wx.drewN q:=fun wx hx=>zh9 t2 t1 to2 to' tc2 tc wx (hT2.out.heap hx) (hT.out.heap hx) l2 l1
    have HR:Hid (V=if(!decide (t2=t1))=true then 184 else 0):=zzH (by rw [E.out];simp [h1,h2]);generalize decide (t2=t1)=bb at *;have HE:=zzH hE;clear hE h1 h2 E
    cases bb
    all_goals
     go_in;go_wp2_with fail;go_quiet ((first|(exact zze (zca _ _ _))|(refine Calls.quiet_of (HE.out _ ?_);rfl)));go_wp2_with fail
     all_goals
      go_ret;exact⟨zY HR.out.symm,by first|exact⟨_,rfl⟩|(simp only [World.drewN_drewN];exact⟨_,rfl⟩)⟩
   ·have b2:=zch h2
    have HR:Hid (V=184):=zzH (by rw [E.out];simp [h2]);clear h1 h2 E;exact zz93
  ·have b1:=zch h1
   have HR:Hid (V=184):=zzH (by rw [E.out];simp [h1]);clear h1 E;exact zz93
section
variable {u:RUnit} {s:VSt}
theorem zeJ {a:RArg} {l:List RArg} (h:zb2 s a≠0):zbs s (a::l)=zb2 s a:=by rw [zbs,if_pos h]
theorem zes {a:RArg} {l:List RArg} (h:zb2 s a=0):zbs s (a::l)=zbs s l:=by rw [zbs,if_neg (by simp [h])]
theorem zpk {l r:List RArg} {k:Nat} (hk:k<l.length) (h:zb2 s l[k]≠0):zbs s (l.drop k++r)=zb2 s l[k]:=by
 rw [zdu hk,List.cons_append,zeJ h]
theorem zon {l r:List RArg} {k:Nat} (hk:k<l.length) (h:zb2 s l[k]=0):zbs s (l.drop k++r)=zbs s (l.drop (k+1)++r):=by
 rw [zdu hk,List.cons_append,zes h]
theorem znH {l:List RSeg} {k:Nat} (hk:k<l.length):zW (l.drop k)=l[k].val::(if l[k].size.kind=0/\l[k].size.n=0 then zW (l.drop (k+1))else l[k].size::zW (l.drop (k+1))):=by
 rw [zdu hk];rfl
theorem zmp (n:Nat) {k:Nat} (hk:k<n):(zbJ n).drop k=⟨1,(k:Int)⟩::(zbJ n).drop (k+1):=by
 rw [zdu (by unfold zbJ;simpa using hk)];unfold zbJ;simp
end
structure OpdOk (u:RUnit) (s:VSt) (x:RIns):Prop where
 src: ∀a∈x.src,ArgOk u s a
 val: ∀g∈x.segs,ArgOk u s g.val
 size: ∀g∈x.segs,¬(g.size.kind=0/\g.size.n=0)->ArgOk u s g.size
 args:x.op=16\/x.op=17->0<=x.n/\x.n<u.funcs.length
 num:0<=zbS u x/\zbS u x<=1000
 srcLen:x.src.length<=1000
 segsLen:x.segs.length<=1000
theorem zip (E U mb p b o:Nat) (at':Int) (u:RUnit) (lo fo go co:zzA) (lc fc gc cc mc:Nat) (x:RIns) (s:VSt) (so co' go':zzA) (sc cc' gc':Nat) (w:World) (hx:VCx w E U mb at' u lo fo go co lc fc gc cc mc) (hi:IBox w b o x so co' go' sc cc' gc') (hs:StAt w p s) (ho:StOk s) (hl:zcU u) (ha:OpdOk u s x):
  Calls Tryz.prog 56 #[.pointer (some ⟨E,0,none⟩),.pointer (some ⟨p,0,none⟩),.pointer (some ⟨b,o,none⟩)] w fun e w'=>e= .returned (.int .i64 (zbF u s x))/\Below w.heap.size w w':=by
 refine zzK4 hi hx hs ha fun HI HX HS HA=>?_;have hsl:=ha.srcLen;have hgl:=ha.segsLen;have HR:Hid (zbF u s x=if zbs s (x.src++(zW x.segs++zbJ (zbS u x).toNat))≠0 then zbs s (x.src++(zW x.segs++zbJ (zbS u x).toNat))else if x.dst.kind=2/\s.frame<=x.dst.n then 181 else 0):=zzH rfl;generalize zbF u s x=R at *;have hkind:=fun(a:RArg) (h:ArgOk u s a) (wx:World) (hb:Below w.heap.size w wx)=>zge E U mb p at' u lo fo go co lc fc gc cc mc s a wx (HX.out.below hb) (HS.out.below hb) ho h hl
 have HK:=zzH hkind;have i3:=hi.c3;have i9:=hi.c9;clear hkind hx hi hs ha;obtain⟨F,hF⟩: ∃F,F=zbs s (x.src++(zW x.segs++zbJ (zbS u x).toNat)):=⟨_,rfl⟩;rw [<-hF]at HR;have HF:=zzH hF;clear hF;go_in;go_wp2_with fail;go_loopw [23] (fun iv wr=> ∃k:Nat,k<=x.src.length/\iv= .int .i64 k/\Hid (F=zbs s (x.src.drop k++(zW x.segs++zbJ (zbS u x).toNat)))/\Hid (Below w.heap.size w wr)) (fun iv _=>x.src.length-(intOf iv).toNat)
 case atStart=>exact⟨0,zzZ _,rfl,zzH (by rw [List.drop_zero];exact HF.out),zzH (zzR _ _)⟩
 case round=>
  obtain⟨k,hk,rfl,HFk,HB⟩:=hrel;rename World=>wr
  by_cases hlt:k<x.src.length
  ·as_aux_lemma=>
   obtain⟨sb,off,hso,hsb,q0,q1,-,-⟩:=(HI.out.below HB.out).src.arg hlt;subst hso;have hao:=HA.out.src _ (zzM hlt);have hbad:=zpk (s:=s) (r:=zW x.segs++zbJ (zbS u x).toNat) hlt;have hgood:=zon (s:=s) (r:=zW x.segs++zbJ (zbS u x).toNat) hlt;have hcall:=HK.out _ hao;have HBAD:=zzH hbad;have HGOOD:=zzH hgood;clear hbad hgood;generalize x.src[k]=a at *;generalize hke:zb2 s a=ke at *;generalize zcj u s a=kt at *;have HC:=zzH hcall;clear hcall hke;have hI0:(0:Int)<=(k:Int):=by omega
   have hI1:(k:Int)<(x.src.length:Int):=by omega
   have hB2:Below w.heap.size w (wr.alloc (.cells #[.int .i64 a.kind,.int .i64 a.n] 42)):=HB.out.alloc HB.out.size _;have HB2:=zzH hB2;have hrow:=zzF wr (.cells #[.int .i64 a.kind,.int .i64 a.n] 42);clear hB2;by_cases h0:ke=0
   ·have t0 : (ke != 0) = false := by rw [h0]; rfl
    have HF2:Hid (F=zbs s (x.src.drop (k+1)++(zW x.segs++zbJ (zbS u x).toNat))):=zzH (by rw [HFk.out];exact HGOOD.out h0);clear h0;go_wp2_with fail;refine(HC.out _ HB2.out).mono ?_;rintro e w1 ⟨rfl,hb1⟩;have HB3:=zzH (HB2.out.trans (hb1.mono HB2.out.size));clear hb1 hrow;go_wp2_with fail;exact⟨⟨k+1,hlt,by go_num,HF2,HB3⟩,by simp [intOf];omega⟩
   ·have t0 : (ke != 0) = true := by simpa using h0
    have HF2:Hid (R=ke):=zzH (by
     have e:=HBAD.out h0;rw [<-HFk.out]at e;rw [HR.out,e,if_pos h0])
    clear h0;go_wp2_with fail;refine(HC.out _ HB2.out).mono ?_;rintro e w1 ⟨rfl,hb1⟩;have HB3:=zzH (HB2.out.trans (hb1.mono HB2.out.size));clear hb1 hrow;go_wp2;go_ret;exact⟨zY HF2.out.symm,HB3.out⟩
  ·obtain rfl:k=x.src.length:=by omega
   have HF1:Hid (F=zbs s (zW x.segs++zbJ (zbS u x).toNat)):=zzH (by rw [HFk.out,zzq10 (Nat.le_refl _)];rfl);have j9:=(HI.out.below HB.out).c9;clear HFk HF;go_wp2_with fail;go_loopw [43] (fun iv wx=> ∃k:Nat,k<=x.segs.length/\iv= .int .i64 k/\Hid (F=zbs s (zW (x.segs.drop k)++zbJ (zbS u x).toNat))/\Hid (Below w.heap.size w wx)) (fun iv _=>x.segs.length-(intOf iv).toNat)
   case atStart=>exact⟨0,zzZ _,rfl,zzH (by rw [List.drop_zero];exact HF1.out),HB⟩
   case round=>
    obtain⟨k,hk,rfl,HFk,HB⟩:=hrel;rename World=>wx
    by_cases hlt:k<x.segs.length
    ·have hgd:=znH hlt
     have hmem:=zzM hlt;have hao:=HA.out.val _ hmem;have hbo:=HA.out.size _ hmem;obtain⟨sb,off,hso,hsb,q0,q1,q2,q3,q4,q5,-⟩:=(HI.out.below HB.out).segs.seg hlt;subst hso;generalize x.segs[k]=g at *;have hcv:=HK.out _ hao;have hcs:=HK.out g.size;generalize hkv:zb2 s g.val=kv at *;generalize zcj u s g.val=tv at *;generalize hks:zb2 s g.size=ks at *;generalize zcj u s g.size=ts at *;refine zzK6 hcv hcs hbo hgd hkv hks fun HCV HCS HBO HGD HKV HKS=>?_;clear hcv hcs hbo hgd hkv hks hao hmem;have hI0:(0:Int)<=(k:Int):=by omega
     have hI1:(k:Int)<(x.segs.length:Int):=by omega
     have hB2:Below w.heap.size w (wx.alloc (.cells #[.int .i64 g.type,.int .i64 g.val.kind,.int .i64 g.val.n,.int .i64 g.size.kind,.int .i64 g.size.n,.bool g.little] 126)):=HB.out.alloc HB.out.size _;have hrow:=zzF wx (.cells #[.int .i64 g.type,.int .i64 g.val.kind,.int .i64 g.val.n,.int .i64 g.size.kind,.int .i64 g.size.n,.bool g.little] 126);go_upto_region 11 with fail;generalize wx.alloc (.cells #[.int .i64 g.type,.int .i64 g.val.kind,.int .i64 g.val.n,.int .i64 g.size.kind,.int .i64 g.size.n,.bool g.little] 126)=V at *;generalize wx.heap.size=X at *;have HB2:=zzH hB2;have HROW:=zzH hrow;have y1:V.cell? ⟨X,1,none⟩=some (.int .i64 g.val.kind):=by rw [zzq0 _ _ _ _ _ _ hrow];rfl
     have y2:V.cell? ⟨X,2,none⟩=some (.int .i64 g.val.n):=by rw [zzq0 _ _ _ _ _ _ hrow];rfl
     clear hB2 hrow q0 q1 q2 q3 q4 q5;by_cases h0:kv=0
     ·have t0 : (kv != 0) = false := by rw [h0]; rfl
      have HF2:Hid (F=zbs s ((if g.size.kind=0/\g.size.n=0 then zW (x.segs.drop (k+1))else g.size::zW (x.segs.drop (k+1)))++zbJ (zbS u x).toNat)):=zzH (by
       rw [HFk.out,HGD.out,List.cons_append,zes (by rw [HKV.out];exact h0)])
      clear h0 HFk HGD;go_wp2_with fail;refine(HCV.out _ HB2.out).mono ?_;rintro e w1 ⟨rfl,hb1⟩;have hr1:=(hb1.block X (zd HROW.out)).trans HROW.out;have HB3:=zzH (HB2.out.trans (hb1.mono HB2.out.size));have y3:w1.cell? ⟨X,3,none⟩=some (.int .i64 g.size.kind):=by rw [zzq0 _ _ _ _ _ _ hr1];rfl
      have y4:w1.cell? ⟨X,4,none⟩=some (.int .i64 g.size.n):=by rw [zzq0 _ _ _ _ _ _ hr1];rfl
      clear hb1 hr1;go_upto_region 14 with fail;by_cases d:g.size.kind=0/\g.size.n=0
      ·have t1:(g.size.kind==0)=true:=zzl.2 d.1
       have t2:(g.size.n==0)=true:=zzl.2 d.2;have HF3:Hid (F=zbs s (zW (x.segs.drop (k+1))++zbJ (zbS u x).toNat)):=zzH (by rw [HF2.out,if_pos d]);clear d HF2 HKS HKV HBO HCS HCV;generalize g.size.kind=sk at *;generalize g.size.n=sn at *;go_wp2_with fail;exact⟨⟨k+1,hlt,by go_num,HF3,HB3⟩,by simp [intOf];omega⟩
      ·have HCS2:=zzH (HCS.out (HBO.out d))
       by_cases d1:g.size.kind=0
       ·have t1:(g.size.kind==0)=true:=zzl.2 d1
        have t2:(g.size.n==0)=false:=zzB.2 fun h=>d ⟨d1,h⟩
        exact zz94
       ·have t1:(g.size.kind==0)=false:=zzB.2 d1
        exact zz94
     ·have t0 : (kv != 0) = true := by simpa using h0
      have HF2:Hid (R=kv):=zzH (by
       have e:F=kv:=by rw [HFk.out,HGD.out,List.cons_append,zeJ (by rw [HKV.out];exact h0),HKV.out]
       rw [HR.out,e,if_pos h0])
      clear h0;go_wp2_with fail;refine(HCV.out _ HB2.out).mono ?_;rintro e w1 ⟨rfl,hb1⟩;have HB3:=zzH (HB2.out.trans (hb1.mono HB2.out.size));clear hb1;go_wp2;go_ret;exact⟨zY HF2.out.symm,HB3.out⟩
    ·obtain rfl:k=x.segs.length:=by omega
     obtain⟨N,hN⟩: ∃N:Nat,zbS u x=(N:Int):=zzJ HA.out.num.1;have hN2:N<=1000:=by have:=HA.out.num.2;omega
     have HF2:Hid (F=zbs s (zbJ N)):=zzH (by rw [HFk.out,zzq10 (Nat.le_refl _),hN];rfl);have harg:=zhC E U mb b o at' u lo fo go co lc fc gc cc mc x so co' _ sc cc' gc' wx (HX.out.below HB.out) (HI.out.below HB.out) HA.out.args;rw [hN]at harg;have HARG:=zzH harg;clear harg hN HFk HF1;go_wp2_with fail;refine HARG.out.mono ?_;rintro e w1 ⟨rfl,nq,rfl⟩;have HB2:Hid (Below w.heap.size w (wx.drewN nq)):=zzH (zm HB.out nq);generalize wx.drewN nq=wy at *;go_wp2_with fail;go_loopw [77] (fun iv wz=> ∃k:Nat,k<=N/\iv= .int .i64 k/\Hid (F=zbs s ((zbJ N).drop k))/\Hid (Below w.heap.size w wz)) (fun iv _=>N-(intOf iv).toNat)
     case atStart=>exact⟨0,zzZ _,rfl,zzH (by rw [List.drop_zero];exact HF2.out),HB2⟩
     case round=>
      obtain⟨k,hk,rfl,HFk,HB3⟩:=hrel;rename World=>wz
      by_cases hlt:k<N
      ·have hgd:=zmp N hlt
       have hlx:=ho.len.x;have hreg:=zfQ p s (k:Int) wz (HS.out.below HB3.out) ⟨by omega,by omega⟩ (by omega);have hke:zb2 s ⟨1,(k:Int)⟩=if zcB s.x (k:Int)=0 then 186 else 0:=by unfold zb2;rw [if_pos rfl]
       refine zzK3 hreg hgd hke fun HREG HGD HKE=>?_;clear hreg hgd hke;generalize zcB s.x (k:Int)=ty at *;by_cases h0:ty=0
       ·have t0:(ty==0)=true:=zzl.2 h0
        have HR2:Hid (R=186):=zzH (by
         have hk1:zb2 s ⟨1,(k:Int)⟩=186:=by rw [HKE.out,if_pos h0]
         have e:F=186:=by rw [HFk.out,HGD.out,zeJ (by rw [hk1];decide),hk1]
         rw [HR.out,e,if_pos (by decide)])
        clear h0;go_wp2_with fail;refine HREG.out.mono ?_;rintro e w1 ⟨rfl,rfl⟩;go_wp2;go_ret;exact⟨zY HR2.out.symm,HB3.out⟩
       ·have t0:(ty==0)=false:=zzB.2 h0
        have HF4:Hid (F=zbs s ((zbJ N).drop (k+1))):=zzH (by
         rw [HFk.out,HGD.out,zes (by rw [HKE.out,if_neg h0])])
        clear h0;go_wp2_with fail;refine HREG.out.mono ?_;rintro e w1 ⟨rfl,rfl⟩;go_wp2_with fail;exact⟨⟨k+1,hlt,by go_num,HF4,HB3⟩,by simp [intOf];omega⟩
      ·obtain rfl:k=N:=by omega
       have HF3:Hid (F=0):=zzH (by
        rw [HFk.out,zzq10 (by unfold zbJ;simp)];rfl)
       have HRF:Hid (R=if x.dst.kind=2/\s.frame<=x.dst.n then 181 else 0):=zzH (by rw [HR.out,HF3.out,if_neg (by simp)]);have jb:=HI.out.below HB3.out;have j1:=jb.c1;have j2:=jb.c2;obtain⟨xo,xc,yo,yc,to',tc,c0,c1,c2,c3,c4,c5,c6,hL⟩:=(HS.out.below HB3.out).cells;clear jb c1 c2 c3 c4 c5 c6 hL HFk HF2 HR;generalize hdk:x.dst.kind=dk at *;generalize hdn:x.dst.n=dn at *;generalize hfr:s.frame=fr at *;clear hdk hdn hfr;by_cases d1:dk=2
       ·have t1:(dk==2)=true:=zzl.2 d1
        by_cases d2:fr<=dn
        ·have t2:decide (fr<=dn)=true:=zzT d2
         have HR2:Hid ((181:Int)=R):=zzH (by rw [HRF.out,if_pos ⟨d1,d2⟩]);exact zz95
        ·have t2:decide (fr<=dn)=false:=zzD d2
         have HR2:Hid ((0:Int)=R):=zzH (by rw [HRF.out,if_neg (fun g=>d2 g.2)]);exact zz95
       ·have t1:(dk==2)=false:=zzB.2 d1
        have HR2:Hid ((0:Int)=R):=zzH (by rw [HRF.out,if_neg (fun g=>d1 g.1)]);clear d1;clear HRF HK HA HF3;go_wp2_with fail;go_quiet ((go_at_call 60;exact zze (zca _ _ _)));go_wp2;go_ret;exact⟨zY HR2.out,zm HB3.out _⟩
theorem zl6 (a t k:Int) (B:Nat) (w:World) (hB:B<w.heap.size) (hk:w.cell? ⟨B,0,none⟩=some (.int .i64 k)):
  Calls Tryz.prog 68 #[.agg #[.int .i64 a,.int .i64 t],.pointer (some ⟨B,0,none⟩)] w fun e w'=>e= .returned (.bool (t==k))/\Below w.heap.size w w':=by
 have hb0:=(zzR w.heap.size w).alloc (zzL _) (.cells #[.int .i64 a,.int .i64 t] 123);have k1:=(hb0.cell (p:=⟨B,0,none⟩) hB).trans hk;have HB:=zzH hb0;clear hb0;go_in;go_wp2;go_ret;exact⟨rfl,HB.out⟩
def zcO (k:Int) (c:RCase):Bool:=c.to==k
theorem zlA (cs:List RCase) (co:zzA) (cc:Nat) (k:Int) (B:Nat) (w:World) (hB:B<w.heap.size) (hk:w.cell? ⟨B,0,none⟩=some (.int .i64 k)) (hc:SlAt w 2 zed co cs) (hl:cs.length<=1000):
  Calls Tryz.prog 109 #[.slice co cs.length cc,.func (.func 68) #[] #[.pointer (some ⟨B,0,none⟩)]] w fun e w'=>(∃r:Int,e= .returned (.int .i64 r)/\Hid (decide (0<=r)=cs.any (zcO k)))/\Below w.heap.size w w':=by
 have HC:=zzH hc;have HK:=zzH hk;clear hc hk;obtain⟨m,hm⟩: ∃m,m=cs.length:=⟨_,rfl⟩;rw [<-hm]at hl ⊢;have HM:=zzH hm;clear hm;go_in;go_wp2_with fail;go_loopw [8] (fun iv wr=> ∃j:Nat,j<=m/\iv= .int .i64 j/\Hid (cs.any (zcO k)=(cs.drop j).any (zcO k))/\Hid (Below w.heap.size w wr)) (fun iv _=>m-(intOf iv).toNat)
 case atStart=>exact⟨0,zzZ _,rfl,zzH (by rw [List.drop_zero]),zzH (zzR _ _)⟩
 case round=>
  obtain⟨j,hj,rfl,HA,HF⟩:=hrel;rename World=>wr
  by_cases hlt:j<m
  ·have hjx:j<cs.length:=by rw [<-HM.out];exact hlt
   obtain⟨cb,cf,hco,hcb,q0,q1,-,-⟩:=(HC.out.mono HF.out (fun _ _ h=>h)).case hjx;subst hco;have hd:(cs.drop j).any (zcO k)=((cs[j].to==k)||(cs.drop (j+1)).any (zcO k)):=by rw [List.drop_eq_getElem_cons hjx,List.any_cons];rfl
   have HD:=zzH hd;clear hd;have hcal:=zl6 cs[j].lit cs[j].to k B wr (zzW hB HF.out.size) ((HF.out.cell (p:=⟨B,0,none⟩) hB).trans HK.out);generalize cs[j].lit=a at *;generalize cs[j].to=t at *;have HCA:=zzH hcal;have hI0:(0:Int)<=(j:Int):=by omega
   have hI1:(j:Int)<(m:Int):=by omega
   clear hcal;generalize(t==k)=b at *
   cases b with
   |true=>
    have E:Hid (decide ((0:Int)<=(j:Int))=cs.any (zcO k)):=zzH (by rw [HA.out,HD.out,decide_eq_true hI0];rfl);clear HA HD;go_wp2_with fail;refine HCA.out.mono ?_;rintro e w1 ⟨rfl,hb1⟩;have HB1:=zzH (HF.out.trans (hb1.mono HF.out.size));clear hb1;go_wp2;go_ret;exact⟨⟨_,rfl,E⟩,HB1.out⟩
   |false=>
    have E:Hid (cs.any (zcO k)=(cs.drop (j+1)).any (zcO k)):=zzH (by rw [HA.out,HD.out];rfl);clear HA HD;go_wp2_with fail;refine HCA.out.mono ?_;rintro e w1 ⟨rfl,hb1⟩;have HB1:=zzH (HF.out.trans (hb1.mono HF.out.size));clear hb1;go_wp2_with fail;go_roundw
    case rel=>exact⟨j+1,by omega,by go_num,E,HB1⟩
    case measure=>simp [intOf];omega
  ·obtain rfl:j=m:=by omega
   have E:Hid (decide ((0:Int)<= -1)=cs.any (zcO k)):=zzH (by rw [HA.out,zzq10 (Nat.le_of_eq HM.out.symm)];rfl);clear HA;go_wp2;go_ret;exact⟨⟨_,rfl,E⟩,HF.out⟩
theorem ziq (cs:List RCase) (co:zzA) (cc:Nat) (k:Int) (B:Nat) (w:World) (hB:B<w.heap.size) (hk:w.cell? ⟨B,0,none⟩=some (.int .i64 k)) (hc:SlAt w 2 zed co cs) (hl:cs.length<=1000):
  Calls Tryz.prog 67 #[.slice co cs.length cc,.func (.func 68) #[] #[.pointer (some ⟨B,0,none⟩)]] w fun e w'=>e= .returned (.bool (cs.any (zcO k)))/\Below w.heap.size w w':=by
 have H:=zzH (zlA cs co cc k B w hB hk hc hl);clear hc hk hl;generalize cs.any (zcO k)=R at *;go_in;go_wp2_with fail;refine H.out.mono ?_;rintro e w1 ⟨⟨r,rfl,HR⟩,hb1⟩;have HB:=zzH hb1;clear hb1 H;go_wp2;go_ret;exact⟨zl HR.out,HB.out⟩
theorem zcI (s:ByteArray):s.toList=s.data.toList:=by rw [zzq19]
theorem zkl (E U mb p b o:Nat) (at':Int) (u:RUnit) (lo fo go co:zzA) (lc fc gc cc mc:Nat) (x:RIns) (s:VSt) (so co' go':zzA) (sc cc' gc':Nat) (w:World) (hx:VCx w E U mb at' u lo fo go co lc fc gc cc mc) (hi:IBox w b o x so co' go' sc cc' gc') (hs:StAt w p s) (ho:StOk s) (hl:zcU u)
  (hsrc:x.op=1->0<x.src.length/\ArgOk u s (zB x)) (hsl:x.src.length<=1000):
  Calls Tryz.prog 102 #[.pointer (some ⟨E,0,none⟩),.pointer (some ⟨p,0,none⟩),.pointer (some ⟨b,o,none⟩)] w fun e w'=>e= .returned (.int .i64 (zcM u s x))/\Below w.heap.size w w':=by
 have i0:=hi.c0;have i3:=hi.c3;have i7:=hi.c7;have HR:Hid (zcM u s x=if x.op=1 then zcj u s (zB x)else if x.op=2\/x.op=13/\x.name.data.toList= [123,125]then 3+(x.src.length:Int)else if x.op=3\/x.op=13/\x.name.data.toList= [124]then 2 else 1):=zzH rfl;generalize zcM u s x=R at *;by_cases h1:x.op=1
 ·obtain⟨hl0,hao⟩:=hsrc h1
  obtain⟨sb,off,rfl,hsb,q0,q1,-,-⟩:=hi.src.arg hl0
  have hsrc0:zB x=x.src[0]:=by
   exact zz82
  have hkind:=zge E U mb p at' u lo fo go co lc fc gc cc mc s (zB x) w hx hs ho hao hl;rw [<-hsrc0]at q0 q1;simp only [Nat.zero_mul,Nat.add_zero]at q0 q1;have HR2:Hid (R=zcj u s (zB x)):=zzH (by rw [HR.out,if_pos h1]);have HK:=zzH hkind;clear hkind hi hsrc hao hsrc0 hx hs HR i7;generalize zcj u s (zB x)=kt at *;generalize zB x=a at *;have hI1:(0:Int)<(x.src.length:Int):=by omega
  generalize x.src.length=sl at *;rw [h1]at i0;clear h1;go_in;go_wp2_with fail;refine HK.out.mono ?_;rintro e w1 ⟨rfl,hb1⟩;go_wp2;go_ret;exact⟨zY HR2.out.symm,hb1⟩
 ·have t1:(x.op==1)=false:=zzB.2 h1
  have hw:IntKind.i64.wrap (3+(x.src.length:Int))=3+(x.src.length:Int):=by rw [zzq2];omega
  clear hi hsrc hx hs hsl;generalize x.src.length=sl at *;generalize x.op=op at *;generalize x.name=nm at *;by_cases h2:op=2
  ·have t2:(op==2)=true:=zzl.2 h2
   have HR2:Hid (R=3+(sl:Int)):=zzH (by rw [HR.out,if_neg h1,if_pos (.inl h2)]);clear HR h1 h2;exact zz83
  ·have t2:(op==2)=false:=zzB.2 h2
   by_cases h3:op=3
   ·have t3:(op==3)=true:=zzl.2 h3
    have t13:(op==13)=false:=by rw [zzq1];omega
    have HR2:Hid (R=2):=zzH (by rw [HR.out,if_neg h1,if_neg (by omega),if_pos (.inl h3)]);clear HR h1 h2 h3;exact zz83
   ·have t3:(op==3)=false:=zzB.2 h3
    by_cases h13:op=13
    ·have t13:(op==13)=true:=zzl.2 h13
     by_cases n1:nm.data.toList= [123,125]
     ·have m1:(nm.toList== [123,125])=true:=by rw [zcI,n1];rfl
      have HR2:Hid (R=3+(sl:Int)):=zzH (by rw [HR.out,if_neg h1,if_pos (.inr ⟨h13,n1⟩)]);clear HR h1 h2 h3 h13 n1;exact zz83
     ·have m1:(nm.toList== [123,125])=false:=by rw [zcI,zzq1];exact n1
      by_cases n2:nm.data.toList= [124]
      ·have m2:(nm.toList== [124])=true:=by rw [zcI,n2];rfl
       have HR2:Hid (R=2):=zzH (by rw [HR.out,if_neg h1,if_neg (fun g=>g.elim h2 fun g=>n1 g.2),if_pos (.inr ⟨h13,n2⟩)]);exact zz101
      ·have m2:(nm.toList== [124])=false:=by rw [zcI,zzq1];exact n2
       have HR2:Hid (R=1):=zzH (by rw [HR.out,if_neg h1,if_neg (fun g=>g.elim h2 fun g=>n1 g.2),if_neg (fun g=>g.elim h3 fun g=>n2 g.2)]);exact zz101
    ·have t13:(op==13)=false:=zzB.2 h13
     have HR2:Hid (R=1):=zzH (by rw [HR.out,if_neg h1,if_neg (fun g=>g.elim h2 fun g=>h13 g.1),if_neg (fun g=>g.elim h3 fun g=>h13 g.1)]);clear HR h1 h2 h3 h13;exact zz83
theorem znV (w:World) (n:Int) (h0:0<=n) (h9:n<=9):(convert 168 9 (.slice (some ⟨w.heap.size,0,none⟩) 1 1)).run Tryz.prog (w.alloc (.cells #[.int .u8 (48+n)] 5))= .ok (.string ⟨#[UInt8.ofNat (48+n.toNat)]⟩) (w.alloc (.cells #[.int .u8 (48+n)] 5)):=by
 have:=run_convert_bytes_back (P:=Tryz.prog) (w.alloc (.cells #[.int .u8 (48+n)] 5)) 168 9 5 ⟨w.heap.size,0,none⟩ 1 [UInt8.ofNat (48+n.toNat)] Tryz.underlying168 Tryz.underlying5 Tryz.underlying9 (fun j hj=>by
  have hj0:j=0:=by simp at hj;exact hj
  subst hj0;have ha:(⟨w.heap.size,0,none⟩:Addr).add 0=⟨w.heap.size,0,none⟩:=by unfold Addr.add;split<;>simp_all
  rw [ha,zzq0 _ _ _ _ _ _ (heap_alloc_new _ _)];have:((UInt8.ofNat (48+n.toNat)).toNat:Int)=48+n:=by rw [UInt8.toNat_ofNat'];omega
  simp only [List.getElem_cons_zero];rw [this]
  rfl)
 exact this
theorem zel (s:ByteArray) (n:Int) (w:World) (hs:s.size<=maxLen):Calls Tryz.prog 79 #[.string s,.int .i64 n] w fun e w'=>e= .returned (.int .i64 (zcX s n))/\Below w.heap.size w w':=by
 have hn:=zdv s w hs;have HC:Hid (¬(zy s=true/\0<=n/\n<=9)->zcX s n=0):=zzH (fun h=>by unfold zcX;rw [if_neg h])
 cases hv:zy s with
 |false=>
  have E:Hid (zcX s n=0):=zzH (HC.out (by rw [hv];simp));rw [hv]at hn;exact zz188
 |true=>
  rw [hv]at hn;by_cases h0:n<0
  ·have E:Hid (zcX s n=0):=zzH (HC.out (by rintro⟨_,h,_⟩;omega))
   exact zz188
  ·by_cases h9:9<n
   ·have E:Hid (zcX s n=0):=zzH (HC.out (by rintro⟨_,_,h⟩;omega))
    exact zz188
   ·have hz:s.size<=32:=(by unfold zy at hv;rw [zzq4,zzq4,zzq8,zzq8]at hv;exact hv.1.2)
    have HV:=zzH hv;have hcv:=znV w n (by omega) (by omega);clear hv HC;go_in;go_upto_region 4 with(go_at_call 71;refine hn.mono ?_;rintro e w1 ⟨rfl,rfl⟩);clear hcv hn
    have hwd:((({data:=#[32]}:ByteArray)++s++ {data:=#[47]}++ {data:=#[48+UInt8.ofNat n.toNat]}++ {data:=#[32]}):ByteArray).data.toList=32::(zb4 s n.toNat++ [32]):=by
     unfold zb4;simp
    have hws:((({data:=#[32]}:ByteArray)++s++ {data:=#[47]}++ {data:=#[48+UInt8.ofNat n.toNat]}++ {data:=#[32]}):ByteArray).size<=100:=by
     have:=congrArg List.length hwd;unfold zb4 at this;simp only [Array.length_toList,zzq18,zzq12,List.length_nil]at this;show _<=_;have e:s.data.size=s.size:=rfl;rw [e]at this;exact zzY (Nat.le_of_eq this) (by omega)
    have HWD:=zzH hwd;generalize((({data:=#[32]}:ByteArray)++s++ {data:=#[47]}++ {data:=#[48+UInt8.ofNat n.toNat]}++ {data:=#[32]}):ByteArray)=W at *;have HB:Hid (Below w.heap.size w (w.alloc (.cells #[.int .u8 (48+n)] 5))):=zzH (zzE _ _);have HCL:Hid (zcX s n=if zb4 s n.toNat∈zdE 1 then 1 else if zb4 s n.toNat∈zdE 2 then 2 else if zb4 s n.toNat∈zdE 3 then 3 else if zb4 s n.toNat∈zdE 4 then 4 else 0):=zzH (by unfold zcX;rw [if_pos ⟨HV.out,by omega,by omega⟩];rfl);have HHO:Hid (∀c,1<=c/\c<=4->zdT (zhi c) W.data.toList=decide (zb4 s n.toNat∈zdE c)):=zzH (fun c hc=>by rw [HWD.out];exact zlI HV.out (by omega) hc);clear hwd;generalize w.alloc (.cells #[.int .u8 (48+n)] 5)=Wa at *;go_wp2_with fail;go_loop [6] (fun cv=> ∃c:Nat,1<=c/\c<=5/\cv= .int .i64 c/\Hid (∀j,1<=j->j<c->zb4 s n.toNat∉zdE j)) (fun cv=>5-(intOf cv).toNat)
    case atStart=>exact⟨1,by decide,by decide,by go_num,zzH (fun j h1 h2=>by omega)⟩
    case round=>
     obtain⟨c,hc1,hc5,rfl,HK⟩:=hrel;by_cases hlt:c<=4
     ·have hna:=zk7 c ⟨hc1,hlt⟩ Wa
      have hho:=zl9 (zfi c) W Wa (zzY (zjD c hlt) (by decide)) (by omega)
      have hq:zdT (zfi c).data.toList W.data.toList=decide (zb4 s n.toNat∈zdE c):=by
       have e:(zfi c).data.toList=zhi c:=by unfold zfi;simp
       rw [e];exact HHO.out c ⟨hc1,hlt⟩
      rw [hq]at hho;clear hq;by_cases hm:zb4 s n.toNat∈zdE c
      ·have E:Hid (zcX s n=c):=zzH (by
        rw [HCL.out];have n1:=HK.out 1;have n2:=HK.out 2;have n3:=HK.out 3;rcases(show c=1\/c=2\/c=3\/c=4 by omega)with rfl|rfl|rfl|rfl
        ·rw [if_pos hm];rfl
        ·rw [if_neg (n1 (by decide) (by decide)),if_pos hm];rfl
        ·rw [if_neg (n1 (by decide) (by decide)),if_neg (n2 (by decide) (by decide)),if_pos hm];rfl
        ·rw [if_neg (n1 (by decide) (by decide)),if_neg (n2 (by decide) (by decide)),if_neg (n3 (by decide) (by decide)),if_pos hm];rfl)
       rw [decide_eq_true hm]at hho;clear hm;go_wp2_with fail;refine hna.mono ?_;rintro e w1 ⟨rfl,rfl⟩;go_wp2_with fail;refine hho.mono ?_;rintro e w1 ⟨rfl,rfl⟩;go_wp2;go_ret;exact⟨zcF E.out.symm,HB.out⟩
      ·have HN2:Hid (∀j,1<=j->j<c+1->zb4 s n.toNat∉zdE j):=zzH (fun j h1 h2=>by
        rcases Nat.eq_or_lt_of_le (Nat.le_of_lt_succ h2)with e|e
        ·subst e;exact hm
        ·exact HK.out j h1 e)
       rw [decide_eq_false hm]at hho;clear hm;go_wp2_with fail;refine hna.mono ?_;rintro e w1 ⟨rfl,rfl⟩;go_wp2_with fail;refine hho.mono ?_;rintro e w1 ⟨rfl,rfl⟩;go_wp2_with fail;go_round
       case rel=>exact⟨c+1,by omega,by omega,by go_num,HN2⟩
       case measure=>simp [intOf];omega
     ·have E:Hid (zcX s n=0):=zzH (by
       rw [HCL.out,if_neg (HK.out 1 (by decide) (by omega)),if_neg (HK.out 2 (by decide) (by omega)),if_neg (HK.out 3 (by decide) (by omega)),if_neg (HK.out 4 (by decide) (by omega))])
      go_wp2;go_ret;exact⟨zcF E.out.symm,HB.out⟩
end Go.Proofs.YthajedcbgnloeaaGreatDoor
