/- part 10 -/
import Derived.Test.YtepjanajflkakaaGreatDoorUnrAll05
import Derived.Test.YtepjanajflkakaaGreatDoorUnrAll06
namespace Go.Proofs.YtepjanajflkakaaGreatDoor
open Go.RowKit
set_option linter.unusedVariables false
set_option linter.unusedSimpArgs false
set_option maxRecDepth 100000
set_option maxHeartbeats 40000000
structure VCx (w:World) (E U mb:Nat) (at':Int) (u:RUnit) (lo fo go co:Option Addr) (lc fc gc cc mc:Nat):Prop where
 ex:w.heap[E]?=some (.cells #[.pointer (some ⟨U,0,none⟩),.slice (some ⟨mb,0,none⟩) u.code.length mc,.int .i64 at'] 89 (0,0))
 bx:UBox w U u lo fo go co lc fc gc cc
 up:UP w u lo fo go co
theorem VCx.below {w w':World} {E U mb:Nat} {at':Int} {u:RUnit} {lo fo go co:Option Addr} {lc fc gc cc mc:Nat} (h:VCx w E U mb at' u lo fo go co lc fc gc cc mc) (hb:Below w.heap.size w w'):VCx w' E U mb at' u lo fo go co lc fc gc cc mc:=
 ⟨(hb.block E (lt_of_row h.ex)).trans h.ex,h.bx.below hb,h.up.below hb⟩
theorem VCx.e0 {w:World} {E U mb:Nat} {at':Int} {u:RUnit} {lo fo go co:Option Addr} {lc fc gc cc mc:Nat} (h:VCx w E U mb at' u lo fo go co lc fc gc cc mc):w.cell? ⟨E,0,none⟩=some (.pointer (some ⟨U,0,none⟩)):=by rw [cell_of_row _ _ _ _ _ _ h.ex];rfl
theorem VCx.e1 {w:World} {E U mb:Nat} {at':Int} {u:RUnit} {lo fo go co:Option Addr} {lc fc gc cc mc:Nat} (h:VCx w E U mb at' u lo fo go co lc fc gc cc mc):w.cell? ⟨E,1,none⟩=some (.slice (some ⟨mb,0,none⟩) u.code.length mc):=by rw [cell_of_row _ _ _ _ _ _ h.ex];rfl
theorem VCx.e2 {w:World} {E U mb:Nat} {at':Int} {u:RUnit} {lo fo go co:Option Addr} {lc fc gc cc mc:Nat} (h:VCx w E U mb at' u lo fo go co lc fc gc cc mc):w.cell? ⟨E,2,none⟩=some (.int .i64 at'):=by rw [cell_of_row _ _ _ _ _ _ h.ex];rfl
structure ArgOk (u:RUnit) (s:VSt) (a:RArg):Prop where
 x:a.kind=1->0<=a.n/\a.n<=255
 y:a.kind=2->0<=a.n/\a.n<=8191
 l:a.kind≠1->a.kind≠2->0<=a.n/\a.n<u.lits.length
 i:I64 a.n
structure StOk (s:VSt):Prop where
 len:VLen s
 y:0<=s.frame->s.y.length=s.frame.toNat
 fr: -1<=s.frame/\s.frame<=8192
def LitsLen (u:RUnit):Prop:= ∀t∈u.lits,t.items.length<=1000000
theorem ret_ii2 {a b c d:Int} (h:a=b) (h':c=d):Ending.returned (.tuple #[.int .i64 a,.int .i64 c])= .returned (.tuple #[.int .i64 b,.int .i64 d]):=by rw [h,h']
theorem vkind_any (E U mb b:Nat) (at':Int) (u:RUnit) (lo fo go co:Option Addr) (lc fc gc cc mc:Nat) (s:VSt) (a:RArg) (w:World) (hx:VCx w E U mb at' u lo fo go co lc fc gc cc mc) (hs:StAt w b s) (ho:StOk s) (ha:ArgOk u s a) (hl:LitsLen u):
  Calls Tryz.prog 132 #[.pointer (some ⟨E,0,none⟩),.pointer (some ⟨b,0,none⟩),.agg #[.int .i64 a.kind,.int .i64 a.n]] w fun e w'=>e= .returned (.tuple #[.int .i64 (kindT u s a),.int .i64 (kindE s a)])/\Below w.heap.size w w':=by
 obtain⟨ak,an⟩:=a
 have hb0:=(Below.refl w.heap.size w).alloc (Nat.le_refl _) (.cells #[.int .i64 ak,.int .i64 an] 42)
 have e0:=heap_alloc_new w (.cells #[.int .i64 ak,.int .i64 an] 42)
 have hx1:=hx.below hb0
 have hs1:=hs.below hb0
 have h1:=ha.x;have h2:=ha.y;have h3:=ha.l
 simp only at h1 h2 h3
 have hfr:=ho.fr;have hlx:=ho.len.x;have hly:=ho.len.y;have hy:=ho.y
 have HT:Hid (kindT u s ⟨ak,an⟩=if ak=1 then typT s.x an else if ak=2 then(if s.frame<=an then 0 else s.y.getD an.toNat 0)else litV u an):=Lib.hid rfl
 have HE:Hid (kindE s ⟨ak,an⟩=if ak=1 then(if typT s.x an=0 then 186 else 0)else if ak=2 then(if s.frame<=an then 181 else 0)else 0):=Lib.hid rfl
 generalize kindT u s ⟨ak,an⟩=RT at *
 generalize kindE s ⟨ak,an⟩=RE at *
 clear hx hs ha ho
 go_in
 go_upto_region 1 with fail
 generalize w.alloc (.cells #[.int .i64 ak,.int .i64 an] 42)=W at *
 have HB:=Lib.hid hb0
 have b0:=cellOf e0 (k:=0) (by simp)
 have b1:=cellOf e0 (k:=1) (by simp)
 simp only [List.getElem_toArray,List.getElem_cons_zero,List.getElem_cons_succ]at b0 b1
 have HS:=Lib.hid hs1;have HX:=Lib.hid hx1
 clear hb0 e0
 by_cases k1:ak=1
 ·subst k1
  obtain⟨g1,g2⟩:=h1 rfl
  have hreg:=vregister_any b s an W hs1 ⟨g1,by omega⟩ (by omega)
  have HT2:Hid (RT=typT s.x an):=Lib.hid (by rw [HT.out,if_pos rfl])
  have HE2:Hid (RE=if typT s.x an=0 then 186 else 0):=Lib.hid (by rw [HE.out,if_pos rfl])
  clear h1 h2 h3 hx1 hs1 HT HE
  generalize typT s.x an=t at *
  have HR:=Lib.hid hreg
  clear hreg
  by_cases c0:t=0
  ·have t0:(t==0)=true:=beq_iff_eq.2 c0
   have HE3:Hid (RE=186):=Lib.hid (by rw [HE2.out,if_pos c0])
   clear c0 HE2
   go_wp2_with fail
   refine HR.out.mono ?_
   rintro e w1 ⟨rfl,rfl⟩
   go_wp2_with fail
   refine(when_any _ _ _).mono ?_
   rintro e w1 ⟨rfl,rfl⟩
   go_wp2_with fail
   go_ret2
   exact⟨ret_ii2 HT2.out.symm HE3.out.symm,HB.out⟩
  ·have t0:(t==0)=false:=beq_eq_false_iff_ne.2 c0
   have HE3:Hid (RE=0):=Lib.hid (by rw [HE2.out,if_neg c0])
   clear c0 HE2
   go_wp2_with fail
   refine HR.out.mono ?_
   rintro e w1 ⟨rfl,rfl⟩
   go_wp2_with fail
   refine(when_any _ _ _).mono ?_
   rintro e w1 ⟨rfl,rfl⟩
   go_wp2_with fail
   go_ret2
   exact⟨ret_ii2 HT2.out.symm HE3.out.symm,HB.out⟩
 ·by_cases k2:ak=2
  ·subst k2
   obtain⟨g1,g2⟩:=h2 rfl
   have HT2:Hid (RT=if s.frame<=an then 0 else s.y.getD an.toNat 0):=Lib.hid (by rw [HT.out,if_neg (by decide),if_pos rfl])
   have HE2:Hid (RE=if s.frame<=an then 181 else 0):=Lib.hid (by rw [HE.out,if_neg (by decide),if_pos rfl])
   obtain⟨xo,xc,yo,yc,to',tc,c0,c1,c2,c3,c4,c5,c6,hL⟩:=hs1.cells
   clear h1 h2 h3 hx1 hs1 HT HE c1 c3 c4 c5 c6 k1
   by_cases d0:s.frame<=an
   ·have t0:decide (s.frame<=an)=true:=decide_eq_true d0
    have HT3:Hid (RT=0):=Lib.hid (by rw [HT2.out,if_pos d0])
    have HE3:Hid (RE=181):=Lib.hid (by rw [HE2.out,if_pos d0])
    clear HT2 HE2 d0 hy hL c2 hlx hly
    go_wp2_with fail
    go_quiet (fail)
    go_wp2_with fail
    go_ret2
    exact⟨ret_ii2 HT3.out.symm HE3.out.symm,below_drewN HB.out _⟩
   ·have t0:decide (s.frame<=an)=false:=decide_eq_false d0
    have HT3:Hid (RT=s.y.getD an.toNat 0):=Lib.hid (by rw [HT2.out,if_neg d0])
    have HE3:Hid (RE=0):=Lib.hid (by rw [HE2.out,if_neg d0])
    obtain⟨n,rfl⟩:=Int.eq_ofNat_of_zero_le g1
    have hyl:=hy (by omega)
    have hn:n<s.y.length:=by omega
    obtain⟨yb,yf,rfl,hyb,z⟩:=hL.y.cell hn
    have HT4:Hid (RT=s.y.getD n 0):=HT3
    clear HT2 HE2 d0 hL HT3
    generalize s.y.getD n 0=v at *
    have hI0:(0:Int)<=(n:Int):=by omega
    have hI1:(n:Int)<(s.y.length:Int):=by omega
    go_wp2_with fail
    go_quiet (fail)
    go_wp2_with fail
    go_quiet (fail)
    go_wp2_with fail
    go_ret2
    exact⟨ret_ii2 HT4.out.symm HE3.out.symm,below_drewN (below_drewN HB.out _) _⟩
  ·obtain⟨g1,g2⟩:=h3 k1 k2
   obtain⟨n,rfl⟩:=Int.eq_ofNat_of_zero_le g1
   have hn:n<u.lits.length:=by omega
   have HT2:Hid (RT=if u.lits[n].kind=9 then 2 else if u.lits[n].kind=7 then 3+(u.lits[n].items.length:Int)else 1):=Lib.hid (by
    rw [HT.out,if_neg k1,if_neg k2]
    unfold litV
    rw [Int.toNat_natCast,List.getElem?_eq_getElem hn])
   have HE2:Hid (RE=0):=Lib.hid (by rw [HE.out,if_neg k1,if_neg k2])
   have t1:(ak==1)=false:=beq_eq_false_iff_ne.2 k1
   have t2:(ak==2)=false:=beq_eq_false_iff_ne.2 k2
   have hit:=hl _ (List.getElem_mem hn)
   obtain⟨f,hf⟩:=tms_depth hx1.up.lits
   obtain⟨lb,loff,li,lic,rfl,hlb,q0,q1,q2,q3,q4,q5,q6,q7,q8,-,-⟩:=(hf.imp fun _ _ h=>h.succ).tm hn
   have x0:=hx1.e0
   have x2:=hx1.bx.c2
   clear h1 h2 h3 hx1 hs1 HT HE k1 k2 q1 q2 q3 q4 q5 q7 q8 hf HS hy hlx hly hfr
   generalize u.lits[n]=t at *
   have hI0:(0:Int)<=(n:Int):=by omega
   have hI1:(n:Int)<(u.lits.length:Int):=by omega
   by_cases d9:t.kind=9
   ·have t9:(t.kind==9)=true:=beq_iff_eq.2 d9
    have HT3:Hid (RT=2):=Lib.hid (by rw [HT2.out,if_pos d9])
    clear HT2 d9
    go_wp2_with fail
    go_quiet (fail)
    go_wp2_with fail
    go_ret2
    exact⟨ret_ii2 HT3.out.symm HE2.out.symm,below_drewN HB.out _⟩
   ·have t9:(t.kind==9)=false:=beq_eq_false_iff_ne.2 d9
    by_cases d7:t.kind=7
    ·have t7:(t.kind==7)=true:=beq_iff_eq.2 d7
     have HT3:Hid (RT=3+(t.items.length:Int)):=Lib.hid (by rw [HT2.out,if_neg d9,if_pos d7])
     have hw:IntKind.i64.wrap (3+(t.items.length:Int))=3+(t.items.length:Int):=by rw [IntKind.wrap_i64];omega
     clear HT2 d9 d7
     go_wp2_with fail
     go_quiet (fail)
     go_wp2_with fail
     go_ret2
     exact⟨ret_ii2 HT3.out.symm HE2.out.symm,below_drewN HB.out _⟩
    ·have t7:(t.kind==7)=false:=beq_eq_false_iff_ne.2 d7
     have HT3:Hid (RT=1):=Lib.hid (by rw [HT2.out,if_neg d9,if_neg d7])
     clear HT2 d9 d7
     go_wp2_with fail
     go_quiet (fail)
     go_wp2_with fail
     go_ret2
     exact⟨ret_ii2 HT3.out.symm HE2.out.symm,below_drewN HB.out _⟩
theorem varguments_any (E U mb b o:Nat) (at':Int) (u:RUnit) (lo fo go co:Option Addr) (lc fc gc cc mc:Nat) (x:RIns) (so co' go':Option Addr) (sc cc' gc':Nat) (w:World) (hx:VCx w E U mb at' u lo fo go co lc fc gc cc mc) (hi:IBox w b o x so co' go' sc cc' gc')
  (hn:x.op=16∨x.op=17->0<=x.n/\x.n<u.funcs.length):
  Calls Tryz.prog 133 #[.pointer (some ⟨E,0,none⟩),.pointer (some ⟨b,o,none⟩)] w fun e w'=>e= .returned (.int .i64 (argsV u x))/\ ∃q,w'=w.drewN q:=by
 have i0:=hi.c0;have i5:=hi.c5
 have HR:Hid (argsV u x=if x.op=15∨x.op=18∨x.op=19∨x.op=20∨x.op=21 then x.n else if x.op=16∨x.op=17 then((u.funcs[x.n.toNat]?).map RFunc.arity).getD 0 else if x.op=26 then 1 else 0):=Lib.hid rfl
 generalize argsV u x=R at *
 clear hi
 generalize x.op=op at *;generalize x.n=n at *
 by_cases h1:op=15∨op=18∨op=19∨op=20∨op=21
 ·have HR2:Hid (R=n):=Lib.hid (by rw [HR.out,if_pos h1])
  clear HR hx hn
  rcases h1 with rfl|rfl|rfl|rfl|rfl
  all_goals
   go_in
   go_wp2_with fail
   go_ret
   exact⟨ret_i HR2.out.symm,0,rfl⟩
 ·have t1:(op==15)=false:=by rw [beq_eq_false_iff_ne];omega
  have t2:(op==18)=false:=by rw [beq_eq_false_iff_ne];omega
  have t3:(op==19)=false:=by rw [beq_eq_false_iff_ne];omega
  have t4:(op==20)=false:=by rw [beq_eq_false_iff_ne];omega
  have t5:(op==21)=false:=by rw [beq_eq_false_iff_ne];omega
  by_cases h2:op=16∨op=17
  ·obtain⟨g1,g2⟩:=hn h2
   obtain⟨n,rfl⟩:=Int.eq_ofNat_of_zero_le g1
   have hnl:n<u.funcs.length:=by omega
   have HR2:Hid (R=(u.funcs[n]).arity):=Lib.hid (by rw [HR.out,if_neg h1,if_pos h2,Int.toNat_natCast,List.getElem?_eq_getElem hnl];rfl)
   obtain⟨fb,off,rfl,hfb,q0,q1,q2,q3,s1,s2,s3⟩:=hx.up.funcs.func hnl
   have x0:=hx.e0
   have x3:=hx.bx.c3
   clear HR hx hn h1 q0 q2 q3 s1 s2 s3
   generalize u.funcs[n]=fn at *
   have hI0:(0:Int)<=(n:Int):=by omega
   have hI1:(n:Int)<(u.funcs.length:Int):=by omega
   rcases h2 with rfl|rfl
   all_goals
    go_in
    go_wp2_with fail
    go_quiet (fail)
    go_wp2_with fail
    go_ret
    exact⟨ret_i HR2.out.symm,_,rfl⟩
  ·have t6:(op==16)=false:=by rw [beq_eq_false_iff_ne];omega
   have t7:(op==17)=false:=by rw [beq_eq_false_iff_ne];omega
   by_cases h3:op=26
   ·have t8:(op==26)=true:=beq_iff_eq.2 h3
    have HR2:Hid (R=1):=Lib.hid (by rw [HR.out,if_neg h1,if_neg h2,if_pos h3])
    clear HR hx hn h1 h2 h3
    go_in
    go_wp2_with fail
    go_ret
    exact⟨ret_i HR2.out.symm,0,rfl⟩
   ·have t8:(op==26)=false:=beq_eq_false_iff_ne.2 h3
    have HR2:Hid (R=0):=Lib.hid (by rw [HR.out,if_neg h1,if_neg h2,if_neg h3])
    clear HR hx hn h1 h2 h3
    go_in
    go_wp2_with fail
    go_ret
    exact⟨ret_i HR2.out.symm,0,rfl⟩
theorem iteT {p:Prop} [Decidable p] {e:Int} (h:p):(if(true:Bool)=true then e else 0)=if p then e else 0:=by rw [if_pos h];rfl
theorem iteF {p:Prop} [Decidable p] {e:Int} (h: ¬p):(if(false:Bool)=true then e else 0)=if p then e else 0:=by rw [if_neg h];rfl
theorem vtypes_any (E U mb p b o:Nat) (at':Int) (u:RUnit) (lo fo go co:Option Addr) (lc fc gc cc mc:Nat) (x:RIns) (s:VSt) (so co' go':Option Addr) (sc cc' gc':Nat) (w:World) (hx:VCx w E U mb at' u lo fo go co lc fc gc cc mc) (hi:IBox w b o x so co' go' sc cc' gc') (hs:StAt w p s) (ho:StOk s) (hl:LitsLen u)
  (hn:x.op=5->0<=x.n/\x.n<=254) (hsrc:x.op=5∨x.op=6∨x.op=7->0<x.src.length/\ArgOk u s (src0 x)):
  Calls Tryz.prog 90 #[.pointer (some ⟨E,0,none⟩),.pointer (some ⟨p,0,none⟩),.pointer (some ⟨b,o,none⟩)] w fun e w'=>e= .returned (.int .i64 (typesV u s x))/\Below w.heap.size w w':=by
 have i0:=hi.c0;have i3:=hi.c3;have i5:=hi.c5
 have HI:=Lib.hid hi;have HX:=Lib.hid hx;have HS:=Lib.hid hs
 have HR:Hid (typesV u s x=if x.op=5 then(if kindT u s (src0 x)<3+x.n+1 then 180 else 0)else if x.op=6∨x.op=7 then(if kindT u s (src0 x)≠2 then 180 else 0)else 0):=Lib.hid rfl
 generalize typesV u s x=R at *
 clear hx hs
 by_cases h5:x.op=5∨x.op=6∨x.op=7
 ·obtain⟨hl0,hao⟩:=hsrc h5
  obtain⟨sb,off,rfl,hsb,q0,q1,-,-⟩:=hi.src.arg hl0
  have hsrc0:src0 x=x.src[0]:=by
   unfold src0
   rw [List.headD_eq_head?_getD,List.head?_eq_getElem?,List.getElem?_eq_getElem hl0];rfl
  have hkind:=fun(wx:World) (hb:Below w.heap.size w wx)=>vkind_any E U mb p at' u lo fo go co lc fc gc cc mc s (src0 x) wx (HX.out.below hb) (HS.out.below hb) ho hao hl
  rw [<-hsrc0]at q0 q1
  simp only [Nat.zero_mul,Nat.add_zero]at q0 q1
  have HK:=Lib.hid hkind
  have hn5:=hn
  clear hkind hi hn hsrc hao hsrc0
  generalize kindT u s (src0 x)=kt at *
  generalize src0 x=a at *
  have hI1:(0:Int)<(x.src.length:Int):=by omega
  generalize x.src.length=sl at *
  generalize hop:x.op=op at *
  clear hop
  by_cases c5:op=5
  ·subst c5
   obtain⟨g1,g2⟩:=hn5 rfl
   have HR2:Hid (R=if kt<3+x.n+1 then 180 else 0):=Lib.hid (by rw [HR.out,if_pos rfl])
   have hw1:IntKind.i64.wrap (3+x.n)=3+x.n:=by rw [IntKind.wrap_i64];omega
   have hw2:IntKind.i64.wrap (3+x.n+1)=3+x.n+1:=by rw [IntKind.wrap_i64];omega
   clear HR h5 hn5
   by_cases d:kt<3+x.n+1
   ·have t0:decide (kt<3+x.n+1)=true:=decide_eq_true d
    have HR3:=Lib.hid ((iteT (e:=180) d).trans HR2.out.symm)
    clear d HR2
    go_in
    go_wp2_with fail
    refine(HK.out _ (Below.refl _ _)).mono ?_
    rintro e w1 ⟨rfl,hb1⟩
    have j5:=(HI.out.below hb1).c5
    go_wp2_with fail
    refine(when_any _ _ _).mono ?_
    rintro e w1 ⟨rfl,rfl⟩
    go_wp2_with fail
    go_ret
    exact⟨ret_i HR3.out,hb1⟩
   ·have t0:decide (kt<3+x.n+1)=false:=decide_eq_false d
    have HR3:=Lib.hid ((iteF (e:=180) d).trans HR2.out.symm)
    clear d HR2
    go_in
    go_wp2_with fail
    refine(HK.out _ (Below.refl _ _)).mono ?_
    rintro e w1 ⟨rfl,hb1⟩
    have j5:=(HI.out.below hb1).c5
    go_wp2_with fail
    refine(when_any _ _ _).mono ?_
    rintro e w1 ⟨rfl,rfl⟩
    go_wp2_with fail
    go_ret
    exact⟨ret_i HR3.out,hb1⟩
  ·have c67:op=6∨op=7:=by omega
   have HR2:Hid (R=if kt≠2 then 180 else 0):=Lib.hid (by rw [HR.out,if_neg c5,if_pos c67])
   clear HR h5 hn5 c5 i5
   by_cases d:kt≠2
   ·have t0 : (kt != 2) = true := by simpa using d
    have HR3:=Lib.hid ((iteT (e:=180) d).trans HR2.out.symm)
    clear d HR2
    rcases c67 with rfl|rfl
    all_goals
     go_in
     go_wp2_with fail
     refine(HK.out _ (Below.refl _ _)).mono ?_
     rintro e w1 ⟨rfl,hb1⟩
     go_wp2_with fail
     refine(when_any _ _ _).mono ?_
     rintro e w1 ⟨rfl,rfl⟩
     go_wp2_with fail
     go_ret
     exact⟨ret_i HR3.out,hb1⟩
   ·have t0 : (kt != 2) = false := by simpa using d
    have HR3:=Lib.hid ((iteF (e:=180) d).trans HR2.out.symm)
    clear d HR2
    rcases c67 with rfl|rfl
    all_goals
     go_in
     go_wp2_with fail
     refine(HK.out _ (Below.refl _ _)).mono ?_
     rintro e w1 ⟨rfl,hb1⟩
     go_wp2_with fail
     refine(when_any _ _ _).mono ?_
     rintro e w1 ⟨rfl,rfl⟩
     go_wp2_with fail
     go_ret
     exact⟨ret_i HR3.out,hb1⟩
 ·have HR2:Hid (R=0):=Lib.hid (by rw [HR.out,if_neg (by omega),if_neg (by omega)])
  have t1:(x.op==5)=false:=by rw [beq_eq_false_iff_ne];omega
  have t2:(x.op==6)=false:=by rw [beq_eq_false_iff_ne];omega
  have t3:(x.op==7)=false:=by rw [beq_eq_false_iff_ne];omega
  clear h5 HR hsrc hn hi
  generalize x.op=op at *
  go_in
  go_wp2_with fail
  go_ret
  exact⟨ret_i HR2.out.symm,Below.refl _ _⟩
theorem open_cases {op:Int} (h:openV op=true):op=1∨op=5∨op=6∨op=7∨op=8∨op=9∨op=10∨op=11∨op=12∨op=13∨op=30∨op=31∨op=32∨op=33∨op=34:=by
 have:=of_decide_eq_true h
 simpa using this
theorem vreceive_any (E p b o:Nat) (x:RIns) (s:VSt) (so co' go':Option Addr) (sc cc' gc':Nat) (w:World) (hi:IBox w b o x so co' go' sc cc' gc') (hs:StAt w p s):
  Calls Tryz.prog 91 #[.pointer (some ⟨E,0,none⟩),.pointer (some ⟨p,0,none⟩),.pointer (some ⟨b,o,none⟩)] w fun e w'=>e= .returned (.int .i64 (receiveV s x))/\w'=w:=by
 have i0:=hi.c0
 obtain⟨xo,xc,yo,yc,to',tc,c0,c1,c2,c3,c4,c5,c6,hL⟩:=hs.cells
 have HR:Hid (receiveV s x=if x.op=37∨x.op=40 then(if s.recv≠1 then 184 else 0)else if x.op=38∨x.op=39 then(if s.recv≠2 then 184 else 0)else if openV x.op=true then 0 else if s.recv≠0 then 184 else 0):=Lib.hid rfl
 generalize receiveV s x=R at *
 clear hi hs hL c0 c1 c2 c3 c4 c6
 generalize s.recv=rc at *
 generalize x.op=op at *
 by_cases h1:op=37∨op=40
 ·have HR2:Hid (R=if rc≠1 then 184 else 0):=Lib.hid (by rw [HR.out,if_pos h1])
  clear HR
  by_cases d:rc≠1
  ·have t0 : (rc != 1) = true := by simpa using d
   have HR3:=Lib.hid ((iteT (e:=184) d).trans HR2.out.symm)
   clear d HR2
   rcases h1 with rfl|rfl
   all_goals
    go_in
    go_wp2_with fail
    refine(when_any _ _ _).mono ?_
    rintro e w1 ⟨rfl,rfl⟩
    go_wp2_with fail
    go_ret
    exact⟨ret_i HR3.out,rfl⟩
  ·have t0 : (rc != 1) = false := by simpa using d
   have HR3:=Lib.hid ((iteF (e:=184) d).trans HR2.out.symm)
   clear d HR2
   rcases h1 with rfl|rfl
   all_goals
    go_in
    go_wp2_with fail
    refine(when_any _ _ _).mono ?_
    rintro e w1 ⟨rfl,rfl⟩
    go_wp2_with fail
    go_ret
    exact⟨ret_i HR3.out,rfl⟩
 ·have s1:(op==37)=false:=by rw [beq_eq_false_iff_ne];omega
  have s2:(op==40)=false:=by rw [beq_eq_false_iff_ne];omega
  by_cases h2:op=38∨op=39
  ·have HR2:Hid (R=if rc≠2 then 184 else 0):=Lib.hid (by rw [HR.out,if_neg h1,if_pos h2])
   clear HR h1
   by_cases d:rc≠2
   ·have t0 : (rc != 2) = true := by simpa using d
    have HR3:=Lib.hid ((iteT (e:=184) d).trans HR2.out.symm)
    clear d HR2
    rcases h2 with rfl|rfl
    all_goals
     go_in
     go_wp2_with fail
     refine(when_any _ _ _).mono ?_
     rintro e w1 ⟨rfl,rfl⟩
     go_wp2_with fail
     go_ret
     exact⟨ret_i HR3.out,rfl⟩
   ·have t0 : (rc != 2) = false := by simpa using d
    have HR3:=Lib.hid ((iteF (e:=184) d).trans HR2.out.symm)
    clear d HR2
    rcases h2 with rfl|rfl
    all_goals
     go_in
     go_wp2_with fail
     refine(when_any _ _ _).mono ?_
     rintro e w1 ⟨rfl,rfl⟩
     go_wp2_with fail
     go_ret
     exact⟨ret_i HR3.out,rfl⟩
  ·have s3:(op==38)=false:=by rw [beq_eq_false_iff_ne];omega
   have s4:(op==39)=false:=by rw [beq_eq_false_iff_ne];omega
   by_cases h3:openV op=true
   ·have HR2:Hid (R=0):=Lib.hid (by rw [HR.out,if_neg h1,if_neg h2,if_pos h3])
    clear HR h1 h2 c5
    rcases open_cases h3 with rfl|rfl|rfl|rfl|rfl|rfl|rfl|rfl|rfl|rfl|rfl|rfl|rfl|rfl|rfl
    all_goals
     go_in
     go_wp2_with fail
     go_ret
     exact⟨ret_i HR2.out.symm,rfl⟩
   ·have HR2:Hid (R=if rc≠0 then 184 else 0):=Lib.hid (by rw [HR.out,if_neg h1,if_neg h2,if_neg h3])
    have ho: ¬(op=1∨op=5∨op=6∨op=7∨op=8∨op=9∨op=10∨op=11∨op=12∨op=13∨op=30∨op=31∨op=32∨op=33∨op=34):=fun g=>h3 (decide_eq_true (by simpa using g))
    have u0:(op==1)=false:=by rw [beq_eq_false_iff_ne];omega
    have u1:(op==5)=false:=by rw [beq_eq_false_iff_ne];omega
    have u2:(op==6)=false:=by rw [beq_eq_false_iff_ne];omega
    have u3:(op==7)=false:=by rw [beq_eq_false_iff_ne];omega
    have u4:(op==8)=false:=by rw [beq_eq_false_iff_ne];omega
    have u5:(op==9)=false:=by rw [beq_eq_false_iff_ne];omega
    have u6:(op==10)=false:=by rw [beq_eq_false_iff_ne];omega
    have u7:(op==11)=false:=by rw [beq_eq_false_iff_ne];omega
    have u8:(op==12)=false:=by rw [beq_eq_false_iff_ne];omega
    have u9:(op==13)=false:=by rw [beq_eq_false_iff_ne];omega
    have u10:(op==30)=false:=by rw [beq_eq_false_iff_ne];omega
    have u11:(op==31)=false:=by rw [beq_eq_false_iff_ne];omega
    have u12:(op==32)=false:=by rw [beq_eq_false_iff_ne];omega
    have u13:(op==33)=false:=by rw [beq_eq_false_iff_ne];omega
    have u14:(op==34)=false:=by rw [beq_eq_false_iff_ne];omega
    clear HR h1 h2 h3 ho
    by_cases d:rc≠0
    ·have t0 : (rc != 0) = true := by simpa using d
     have HR3:=Lib.hid ((iteT (e:=184) d).trans HR2.out.symm)
     clear d HR2
     go_in
     go_wp2_with fail
     refine(when_any _ _ _).mono ?_
     rintro e w1 ⟨rfl,rfl⟩
     go_wp2_with fail
     go_ret
     exact⟨ret_i HR3.out,rfl⟩
    ·have t0 : (rc != 0) = false := by simpa using d
     have HR3:=Lib.hid ((iteF (e:=184) d).trans HR2.out.symm)
     clear d HR2
     go_in
     go_wp2_with fail
     refine(when_any _ _ _).mono ?_
     rintro e w1 ⟨rfl,rfl⟩
     go_wp2_with fail
     go_ret
     exact⟨ret_i HR3.out,rfl⟩
theorem vcheck1_any (E p b o:Nat) (x:RIns) (s:VSt) (so co' go':Option Addr) (sc cc' gc':Nat) (w:World) (hi:IBox w b o x so co' go' sc cc' gc') (hs:StAt w p s):
  Calls Tryz.prog 92 #[.pointer (some ⟨E,0,none⟩),.pointer (some ⟨p,0,none⟩),.pointer (some ⟨b,o,none⟩)] w fun e w'=>e= .returned (.int .i64 (matchV s x))/\w'=w:=by
 have i0:=hi.c0
 obtain⟨xo,xc,yo,yc,to',tc,c0,c1,c2,c3,c4,c5,c6,hL⟩:=hs.cells
 have HR:Hid (matchV s x=if s.mt=false/\31<=x.op/\x.op<=34 then 183 else 0):=Lib.hid rfl
 generalize matchV s x=R at *
 clear hi hs hL c0 c1 c2 c3 c5 c6
 generalize s.mt=mt at *
 generalize x.op=op at *
 cases mt with
 |true=>
  have HR2:Hid ((0:Int)=R):=Lib.hid (by rw [HR.out,if_neg (by simp)])
  clear HR
  go_in
  go_wp2_with (go_at_call 93;refine(when_any _ _ _).mono ?_;rintro e w1 ⟨rfl,rfl⟩)
  go_ret
  exact⟨ret_i HR2.out,rfl⟩
 |false=>
  by_cases h1:31<=op
  ·have t1:decide (31<=op)=true:=decide_eq_true h1
   by_cases h2:op<=34
   ·have t2:decide (op<=34)=true:=decide_eq_true h2
    have HR2:Hid ((183:Int)=R):=Lib.hid (by rw [HR.out,if_pos ⟨rfl,h1,h2⟩])
    clear HR h1 h2
    go_in
    go_wp2_with (go_at_call 93;refine(when_any _ _ _).mono ?_;rintro e w1 ⟨rfl,rfl⟩)
    go_ret
    exact⟨ret_i HR2.out,rfl⟩
   ·have t2:decide (op<=34)=false:=decide_eq_false h2
    have HR2:Hid ((0:Int)=R):=Lib.hid (by rw [HR.out,if_neg (fun g=>h2 g.2.2)])
    clear HR h1 h2
    go_in
    go_wp2_with (go_at_call 93;refine(when_any _ _ _).mono ?_;rintro e w1 ⟨rfl,rfl⟩)
    go_ret
    exact⟨ret_i HR2.out,rfl⟩
  ·have t1:decide (31<=op)=false:=decide_eq_false h1
   have HR2:Hid ((0:Int)=R):=Lib.hid (by rw [HR.out,if_neg (fun g=>h1 g.2.1)])
   clear HR h1
   go_in
   go_wp2_with (go_at_call 93;refine(when_any _ _ _).mono ?_;rintro e w1 ⟨rfl,rfl⟩)
   go_ret
   exact⟨ret_i HR2.out,rfl⟩
theorem vcheck2_any (E p b o:Nat) (x:RIns) (s:VSt) (so co' go':Option Addr) (sc cc' gc':Nat) (w:World) (hi:IBox w b o x so co' go' sc cc' gc') (hs:StAt w p s):
  Calls Tryz.prog 94 #[.pointer (some ⟨E,0,none⟩),.pointer (some ⟨p,0,none⟩),.pointer (some ⟨b,o,none⟩)] w fun e w'=>e= .returned (.int .i64 (frameV s x))/\w'=w:=by
 have i0:=hi.c0
 obtain⟨xo,xc,yo,yc,to',tc,c0,c1,c2,c3,c4,c5,c6,hL⟩:=hs.cells
 have HR:Hid (frameV s x=if 0<=s.frame/\(x.op=24∨leavesV x.op=true)∨s.frame<0/\x.op=25 then 181 else 0):=Lib.hid rfl
 have hlv:=fun wx=>vleaves_any x.op wx
 generalize frameV s x=R at *
 clear hi hs hL c1 c2 c3 c4 c5 c6
 generalize s.frame=fr at *
 generalize leavesV x.op=lv at *
 generalize x.op=op at *
 have HLV:=Lib.hid hlv
 clear hlv
 by_cases h1:0<=fr
 ·have t1:decide (0<=fr)=true:=decide_eq_true h1
  by_cases h2:op=24
  ·have t2:(op==24)=true:=beq_iff_eq.2 h2
   have HR2:Hid ((181:Int)=R):=Lib.hid (by rw [HR.out,if_pos (.inl ⟨h1,.inl h2⟩)])
   clear HR h1 h2
   go_in
   go_wp2_with (first|(go_at_call 93;refine(when_any _ _ _).mono ?_;rintro e w1 ⟨rfl,rfl⟩)|(go_at_call 95;refine(HLV.out _).mono ?_;rintro e w1 ⟨rfl,rfl⟩))
   go_ret
   exact⟨ret_i HR2.out,rfl⟩
  ·have t2:(op==24)=false:=beq_eq_false_iff_ne.2 h2
   cases lv with
   |true=>
    have HR2:Hid ((181:Int)=R):=Lib.hid (by rw [HR.out,if_pos (.inl ⟨h1,.inr rfl⟩)])
    clear HR h1 h2
    go_in
    go_wp2_with (first|(go_at_call 93;refine(when_any _ _ _).mono ?_;rintro e w1 ⟨rfl,rfl⟩)|(go_at_call 95;refine(HLV.out _).mono ?_;rintro e w1 ⟨rfl,rfl⟩))
    go_ret
    exact⟨ret_i HR2.out,rfl⟩
   |false=>
    have HR2:Hid ((0:Int)=R):=Lib.hid (by rw [HR.out,if_neg (by rintro(⟨-,g|g⟩|⟨g,-⟩);exact h2 g;cases g;omega)])
    clear HR h1 h2
    go_in
    go_wp2_with (first|(go_at_call 93;refine(when_any _ _ _).mono ?_;rintro e w1 ⟨rfl,rfl⟩)|(go_at_call 95;refine(HLV.out _).mono ?_;rintro e w1 ⟨rfl,rfl⟩))
    go_ret
    exact⟨ret_i HR2.out,rfl⟩
 ·have t1:decide (0<=fr)=false:=decide_eq_false h1
  by_cases h2:op=25
  ·have t2:(op==25)=true:=beq_iff_eq.2 h2
   have HR2:Hid ((181:Int)=R):=Lib.hid (by rw [HR.out,if_pos (.inr ⟨by omega,h2⟩)])
   clear HR h1 h2
   go_in
   go_wp2_with (first|(go_at_call 93;refine(when_any _ _ _).mono ?_;rintro e w1 ⟨rfl,rfl⟩)|(go_at_call 95;refine(HLV.out _).mono ?_;rintro e w1 ⟨rfl,rfl⟩))
   go_ret
   exact⟨ret_i HR2.out,rfl⟩
  ·have t2:(op==25)=false:=beq_eq_false_iff_ne.2 h2
   have HR2:Hid ((0:Int)=R):=Lib.hid (by rw [HR.out,if_neg (by rintro(⟨g,-⟩|⟨-,g⟩);exact h1 g;exact h2 g)])
   clear HR h1 h2
   go_in
   go_wp2_with (first|(go_at_call 93;refine(when_any _ _ _).mono ?_;rintro e w1 ⟨rfl,rfl⟩)|(go_at_call 95;refine(HLV.out _).mono ?_;rintro e w1 ⟨rfl,rfl⟩))
   go_ret
   exact⟨ret_i HR2.out,rfl⟩
theorem vcheck3_any (E U mb p b o i:Nat) (u:RUnit) (lo fo go co:Option Addr) (lc fc gc cc mc:Nat) (x:RIns) (s:VSt) (so co' go':Option Addr) (sc cc' gc':Nat) (w:World) (hx:VCx w E U mb i u lo fo go co lc fc gc cc mc) (hi:IBox w b o x so co' go' sc cc' gc') (hs:StAt w p s) (ls:VLen s):
  Calls Tryz.prog 96 #[.pointer (some ⟨E,0,none⟩),.pointer (some ⟨p,0,none⟩),.pointer (some ⟨b,o,none⟩)] w fun e w'=>e= .returned (.int .i64 (triesV i s x))/\ ∃q,w'=w.drewN q:=by
 have i0:=hi.c0
 have x2:=hx.e2
 have lt:=ls.t
 obtain⟨xo,xc,yo,yc,to',tc,c0,c1,c2,c3,c4,c5,c6,hL⟩:=hs.cells
 have HR:Hid (triesV i s x=if s.tries.length=0 then(if x.op=29 then 182 else 0)else if leavesV x.op=true∨raises x.op=true/\lastT s.tries<=i then 182 else 0):=Lib.hid rfl
 have hlv:=fun wx=>vleaves_any x.op wx
 have hrs: ∀wx,Calls Tryz.prog 97 #[.int .i64 x.op] wx fun e w'=>e= .returned (.bool (raises x.op))/\w'=wx:=fun wx=>(raises_any x.op wx).mono fun _ _ ⟨a,b⟩=>⟨a,b.symm⟩
 generalize triesV i s x=R at *
 clear hi hs hx c0 c1 c2 c4 c5 c6
 generalize leavesV x.op=lv at *
 generalize raises x.op=rs at *
 generalize x.op=op at *
 have HLV:=Lib.hid hlv;have HRS:=Lib.hid hrs
 clear hlv hrs
 by_cases h0:s.tries.length=0
 ·have t0:((s.tries.length:Int)==0)=true:=by rw [beq_iff_eq];omega
  by_cases h1:op=29
  ·have t1:(op==29)=true:=beq_iff_eq.2 h1
   have HR2:Hid ((182:Int)=R):=Lib.hid (by rw [HR.out,if_pos h0,if_pos h1])
   clear HR h0 h1 hL
   generalize s.tries.length=n at *
   go_in
   go_wp2_with (go_at_call 93;refine(when_any _ _ _).mono ?_;rintro e w1 ⟨rfl,rfl⟩)
   go_ret
   exact⟨ret_i HR2.out,0,rfl⟩
  ·have t1:(op==29)=false:=beq_eq_false_iff_ne.2 h1
   have HR2:Hid ((0:Int)=R):=Lib.hid (by rw [HR.out,if_pos h0,if_neg h1])
   clear HR h0 h1 hL
   generalize s.tries.length=n at *
   go_in
   go_wp2_with (go_at_call 93;refine(when_any _ _ _).mono ?_;rintro e w1 ⟨rfl,rfl⟩)
   go_ret
   exact⟨ret_i HR2.out,0,rfl⟩
 ·have t0:((s.tries.length:Int)==0)=false:=by rw [beq_eq_false_iff_ne];omega
  obtain⟨n,hn⟩: ∃n,s.tries.length=n+1:=⟨s.tries.length-1,by omega⟩
  obtain⟨tb,tf,rfl,htb,z⟩:=hL.t.cell (k:=n) (by omega)
  have hlast:lastT s.tries=s.tries.getD n 0:=by unfold lastT;rw [hn];rfl
  have HR1:Hid (R=if lv=true∨rs=true/\lastT s.tries<=i then 182 else 0):=Lib.hid (by rw [HR.out,if_neg h0])
  rw [hlast]at HR1
  generalize s.tries.getD n 0=l at *
  have hw:IntKind.i64.wrap (((n+1:Nat):Int)-1)=(n:Int):=by rw [IntKind.wrap_i64];omega
  rw [hn]at c3 t0 lt
  clear HR h0 hL hn hlast
  have hI0:(0:Int)<=(n:Int):=by omega
  have hI1:(n:Int)<((n+1:Nat):Int):=by omega
  cases lv with
  |true=>
   have HR2:Hid ((182:Int)=R):=Lib.hid (by rw [HR1.out,if_pos (.inl rfl)])
   clear HR1
   go_in
   go_wp2_with fail
   go_quiet (first|(go_at_call 95;exact Calls.quiet_of_same (HLV.out _))|(go_at_call 97;exact Calls.quiet_of_same (HRS.out _))|(go_at_call 93;exact Calls.quiet_of_same (when_any _ _ _)))
   go_wp2_with fail
   go_ret
   exact⟨ret_i HR2.out,_,rfl⟩
  |false=>
   cases rs with
   |false=>
    have HR2:Hid ((0:Int)=R):=Lib.hid (by rw [HR1.out,if_neg (by simp)])
    clear HR1
    go_in
    go_wp2_with fail
    go_quiet (first|(go_at_call 95;exact Calls.quiet_of_same (HLV.out _))|(go_at_call 97;exact Calls.quiet_of_same (HRS.out _))|(go_at_call 93;exact Calls.quiet_of_same (when_any _ _ _)))
    go_wp2_with fail
    go_ret
    exact⟨ret_i HR2.out,_,rfl⟩
   |true=>
    by_cases h2:l<=(i:Int)
    ·have t2:decide (l<=(i:Int))=true:=decide_eq_true h2
     have HR2:Hid ((182:Int)=R):=Lib.hid (by rw [HR1.out,if_pos (.inr ⟨rfl,h2⟩)])
     clear HR1 h2
     go_in
     go_wp2_with fail
     go_quiet (first|(go_at_call 95;exact Calls.quiet_of_same (HLV.out _))|(go_at_call 97;exact Calls.quiet_of_same (HRS.out _))|(go_at_call 93;exact Calls.quiet_of_same (when_any _ _ _)))
     go_wp2_with fail
     go_ret
     exact⟨ret_i HR2.out,_,rfl⟩
    ·have t2:decide (l<=(i:Int))=false:=decide_eq_false h2
     have HR2:Hid ((0:Int)=R):=Lib.hid (by rw [HR1.out,if_neg (by rintro(g|g);cases g;exact h2 g.2)])
     clear HR1 h2
     go_in
     go_wp2_with fail
     go_quiet (first|(go_at_call 95;exact Calls.quiet_of_same (HLV.out _))|(go_at_call 97;exact Calls.quiet_of_same (HRS.out _))|(go_at_call 93;exact Calls.quiet_of_same (when_any _ _ _)))
     go_wp2_with fail
     go_ret
     exact⟨ret_i HR2.out,_,rfl⟩
theorem vback_any (E U mb p k:Nat) (at':Int) (u:RUnit) (lo fo go co:Option Addr) (lc fc gc cc mc:Nat) (s:VSt) (M:Nat->Option VM) (cs:Array Value) (g:Nat->Nat) (w:World) (hx:VCx w E U mb at' u lo fo go co lc fc gc cc mc) (hm:MeetAt w mb u.code.length M cs g) (hs:StAt w p s) (ls:VLen s) (hk:k<u.code.length) (hv: ∀m,M k=some m->VLen m.st):
  Calls Tryz.prog 102 #[.pointer (some ⟨E,0,none⟩),.pointer (some ⟨p,0,none⟩),.int .i64 k] w fun e w'=>e= .returned (.int .i64 (if backB (stM M k) s=true then 184 else 0))/\ ∃n,w'=w.drewN n:=by
 obtain⟨pv,av,wv,f0,f1,f2,h1⟩:=hm.one k hk
 have e1:=hx.e1
 have q0:w.cell? ⟨mb,k*3,none⟩=some pv:=by rw [cell_of_row _ _ _ _ _ _ hm.row];exact f0
 obtain⟨xo,xc,yo,yc,to',tc,c0,c1,c2,c3,c4,c5,c6,hL⟩:=hs.cells
 have hT:=Lib.hid hL.t
 have l1:=ls.t
 have hkz:(0:Int)<=(k:Int):=by omega
 have hkl:(k:Int)<(u.code.length:Int):=by omega
 have hmk:M k=M k:=rfl
 revert hmk
 generalize hMk:M k=mo at h1
 intro _
 have hv':=fun m h=>hv m (hMk.trans h)
 have hR:backB (stM M k) s=backB (mo.map VM.st) s:=by unfold stM;rw [hMk]
 rw [hR]
 obtain⟨V,hV⟩: ∃V:Int,V=(if backB (mo.map VM.st) s=true then 184 else 0):=⟨_,rfl⟩
 rw [<-hV]
 have HV:=Lib.hid hV
 clear hV
 clear c1 c2 c4 c5 hm hx hs ls f0 f1 f2 hL hv hMk hR
 cases mo with
 |none=>
  obtain⟨rfl,-,-⟩:=h1
  have HR:Hid (V=184):=Lib.hid (by rw [HV.out];rfl)
  clear HV
  clear c0 c3 c6
  go_in
  go_wp2_with fail
  go_quiet ((first|(exact Calls.quiet_of_same (when_any _ _ _))))
  go_wp2_with fail
  go_ret
  exact⟨ret_i HR.out.symm,by first|exact⟨_,rfl⟩|(simp only [World.drewN_drewN];exact⟨_,rfl⟩)⟩
 |some m=>
  obtain⟨⟨b,rfl,hb⟩,-,-⟩:=h1
  obtain⟨xo2,xc2,yo2,yc2,to2,tc2,d0,d1,d2,d3,d4,d5,d6,hL2⟩:=hb.cells
  have hT2:=Lib.hid hL2.t
  have l2:=(hv' m rfl).t
  have E:Hid (V=if m.st.frame≠s.frame∨m.st.frm≠s.frm∨m.st.tries≠s.tries then 184 else 0):=Lib.hid (by rw [HV.out];unfold backB;simp)
  unfold ptrV at q0
  clear d1 d2 d4 d5 hL2 hb hv'
  clear HV
  generalize s.frame=a1 at *;generalize m.st.frame=a2 at *
  generalize s.frm=g1 at *;generalize m.st.frm=g2 at *
  generalize s.tries=t1 at *;generalize m.st.tries=t2 at *
  by_cases h1:a2=a1
  ·have b1:=stEq h1
   by_cases h2:g2=g1
   ·have b2:=stEq h2
    have hE: ∀wx:World,wx.heap=w.heap->Calls Tryz.prog 129 #[.slice to2 t2.length tc2,.slice to' t1.length tc] wx fun e w'=>e= .returned (.bool (decide (t2=t1)))/\ ∃q,w'=wx.drewN q:=fun wx hx=>equal_any t2 t1 to2 to' tc2 tc wx (hT2.out.heap hx) (hT.out.heap hx) l2 l1
    have HR:Hid (V=if(!decide (t2=t1))=true then 184 else 0):=Lib.hid (by rw [E.out];simp [h1,h2])
    generalize decide (t2=t1)=bb at *
    have HE:=Lib.hid hE
    clear hE h1 h2 E
    cases bb
    all_goals
     go_in
     go_wp2_with fail
     go_quiet ((first|(exact Calls.quiet_of_same (when_any _ _ _))|(refine Calls.quiet_of (HE.out _ ?_);rfl)))
     go_wp2_with fail
     all_goals
      go_ret
      exact⟨ret_i HR.out.symm,by first|exact⟨_,rfl⟩|(simp only [World.drewN_drewN];exact⟨_,rfl⟩)⟩
   ·have b2:=stNe h2
    have HR:Hid (V=184):=Lib.hid (by rw [E.out];simp [h2])
    clear h1 h2 E
    go_in
    go_wp2_with fail
    go_quiet ((first|(exact Calls.quiet_of_same (when_any _ _ _))))
    go_wp2_with fail
    go_ret
    exact⟨ret_i HR.out.symm,by first|exact⟨_,rfl⟩|(simp only [World.drewN_drewN];exact⟨_,rfl⟩)⟩
  ·have b1:=stNe h1
   have HR:Hid (V=184):=Lib.hid (by rw [E.out];simp [h1])
   clear h1 E
   go_in
   go_wp2_with fail
   go_quiet ((first|(exact Calls.quiet_of_same (when_any _ _ _))))
   go_wp2_with fail
   go_ret
   exact⟨ret_i HR.out.symm,by first|exact⟨_,rfl⟩|(simp only [World.drewN_drewN];exact⟨_,rfl⟩)⟩
structure EffOk (u:RUnit) (s:VSt) (x:RIns):Prop where
 src1:x.op=1->0<x.src.length/\ArgOk u s (src0 x)
 srcp:x.op=9∨x.op=10->0<x.src.length/\((src0 x).kind=1->0<=(src0 x).n/\(src0 x).n<=255)/\((src0 x).kind=2->0<=(src0 x).n/\(src0 x).n<s.y.length)
 srcl:x.src.length<=1000
 dstx:x.dst.kind=1->0<=x.dst.n/\x.dst.n<=255
 dsty:x.dst.kind=2->0<=x.dst.n/\x.dst.n<s.y.length
 live:0<=x.live/\x.live<=256
 tup:x.op=9->0<=x.n/\x.n<=255
 frm:x.op=24->1<=x.n/\x.n<=8192
 tri:x.op=29->s.tries≠ []
section
variable {u:RUnit} {s:VSt}
theorem firstE_bad {a:RArg} {l:List RArg} (h:kindE s a≠0):firstE s (a::l)=kindE s a:=by rw [firstE,if_pos h]
theorem firstE_good {a:RArg} {l:List RArg} (h:kindE s a=0):firstE s (a::l)=firstE s l:=by rw [firstE,if_neg (by simp [h])]
theorem src_bad {l r:List RArg} {k:Nat} (hk:k<l.length) (h:kindE s l[k]≠0):firstE s (l.drop k++r)=kindE s l[k]:=by
 rw [drop_step hk,List.cons_append,firstE_bad h]
theorem src_good {l r:List RArg} {k:Nat} (hk:k<l.length) (h:kindE s l[k]=0):firstE s (l.drop k++r)=firstE s (l.drop (k+1)++r):=by
 rw [drop_step hk,List.cons_append,firstE_good h]
theorem seg_drop {l:List RSeg} {k:Nat} (hk:k<l.length):segArgs (l.drop k)=l[k].val::(if l[k].size.kind=0/\l[k].size.n=0 then segArgs (l.drop (k+1))else l[k].size::segArgs (l.drop (k+1))):=by
 rw [drop_step hk];rfl
theorem regs_drop (n:Nat) {k:Nat} (hk:k<n):(regsV n).drop k=⟨1,(k:Int)⟩::(regsV n).drop (k+1):=by
 rw [drop_step (by unfold regsV;simpa using hk)]
 unfold regsV
 simp
end
structure OpdOk (u:RUnit) (s:VSt) (x:RIns):Prop where
 src: ∀a∈x.src,ArgOk u s a
 val: ∀g∈x.segs,ArgOk u s g.val
 size: ∀g∈x.segs,¬(g.size.kind=0/\g.size.n=0)->ArgOk u s g.size
 args:x.op=16∨x.op=17->0<=x.n/\x.n<u.funcs.length
 num:0<=argsV u x/\argsV u x<=1000
 srcLen:x.src.length<=1000
 segsLen:x.segs.length<=1000
theorem voperands_any (E U mb p b o:Nat) (at':Int) (u:RUnit) (lo fo go co:Option Addr) (lc fc gc cc mc:Nat) (x:RIns) (s:VSt) (so co' go':Option Addr) (sc cc' gc':Nat) (w:World) (hx:VCx w E U mb at' u lo fo go co lc fc gc cc mc) (hi:IBox w b o x so co' go' sc cc' gc') (hs:StAt w p s) (ho:StOk s) (hl:LitsLen u) (ha:OpdOk u s x):
  Calls Tryz.prog 89 #[.pointer (some ⟨E,0,none⟩),.pointer (some ⟨p,0,none⟩),.pointer (some ⟨b,o,none⟩)] w fun e w'=>e= .returned (.int .i64 (operandsV u s x))/\Below w.heap.size w w':=by
 have HI:=Lib.hid hi;have HX:=Lib.hid hx;have HS:=Lib.hid hs;have HA:=Lib.hid ha
 have hsl:=ha.srcLen;have hgl:=ha.segsLen
 have HR:Hid (operandsV u s x=if firstE s (x.src++(segArgs x.segs++regsV (argsV u x).toNat))≠0 then firstE s (x.src++(segArgs x.segs++regsV (argsV u x).toNat))else if x.dst.kind=2/\s.frame<=x.dst.n then 181 else 0):=Lib.hid rfl
 generalize operandsV u s x=R at *
 have hkind:=fun(a:RArg) (h:ArgOk u s a) (wx:World) (hb:Below w.heap.size w wx)=>vkind_any E U mb p at' u lo fo go co lc fc gc cc mc s a wx (HX.out.below hb) (HS.out.below hb) ho h hl
 have HK:=Lib.hid hkind
 have i3:=hi.c3;have i9:=hi.c9
 clear hkind hx hi hs ha
 obtain⟨F,hF⟩: ∃F,F=firstE s (x.src++(segArgs x.segs++regsV (argsV u x).toNat)):=⟨_,rfl⟩
 rw [<-hF]at HR
 have HF:=Lib.hid hF
 clear hF
 go_in
 go_wp2_with fail
 go_loopw [23] (fun iv wr=> ∃k:Nat,k<=x.src.length/\iv= .int .i64 k/\Hid (F=firstE s (x.src.drop k++(segArgs x.segs++regsV (argsV u x).toNat)))/\Hid (Below w.heap.size w wr)) (fun iv _=>x.src.length-(intOf iv).toNat)
 case atStart=>exact⟨0,Nat.zero_le _,rfl,Lib.hid (by rw [List.drop_zero];exact HF.out),Lib.hid (Below.refl _ _)⟩
 case round=>
  obtain⟨k,hk,rfl,HFk,HB⟩:=hrel
  rename World=>wr
  by_cases hlt:k<x.src.length
  ·as_aux_lemma=>
   obtain⟨sb,off,hso,hsb,q0,q1,-,-⟩:=(HI.out.below HB.out).src.arg hlt
   subst hso
   have hao:=HA.out.src _ (List.getElem_mem hlt)
   have hbad:=src_bad (s:=s) (r:=segArgs x.segs++regsV (argsV u x).toNat) hlt
   have hgood:=src_good (s:=s) (r:=segArgs x.segs++regsV (argsV u x).toNat) hlt
   have hcall:=HK.out _ hao
   have HBAD:=Lib.hid hbad;have HGOOD:=Lib.hid hgood
   clear hbad hgood
   generalize x.src[k]=a at *
   generalize hke:kindE s a=ke at *
   generalize kindT u s a=kt at *
   have HC:=Lib.hid hcall
   clear hcall hke
   have hI0:(0:Int)<=(k:Int):=by omega
   have hI1:(k:Int)<(x.src.length:Int):=by omega
   have hB2:Below w.heap.size w (wr.alloc (.cells #[.int .i64 a.kind,.int .i64 a.n] 42)):=HB.out.alloc HB.out.size _
   have HB2:=Lib.hid hB2
   have hrow:=heap_alloc_new wr (.cells #[.int .i64 a.kind,.int .i64 a.n] 42)
   clear hB2
   by_cases h0:ke=0
   ·have t0 : (ke != 0) = false := by rw [h0]; rfl
    have HF2:Hid (F=firstE s (x.src.drop (k+1)++(segArgs x.segs++regsV (argsV u x).toNat))):=Lib.hid (by rw [HFk.out];exact HGOOD.out h0)
    clear h0
    go_wp2_with fail
    refine(HC.out _ HB2.out).mono ?_
    rintro e w1 ⟨rfl,hb1⟩
    have HB3:=Lib.hid (HB2.out.trans (hb1.mono HB2.out.size))
    clear hb1 hrow
    go_wp2_with fail
    exact⟨⟨k+1,hlt,by go_num,HF2,HB3⟩,by simp [intOf];omega⟩
   ·have t0 : (ke != 0) = true := by simpa using h0
    have HF2:Hid (R=ke):=Lib.hid (by
     have e:=HBAD.out h0
     rw [<-HFk.out]at e
     rw [HR.out,e,if_pos h0])
    clear h0
    go_wp2_with fail
    refine(HC.out _ HB2.out).mono ?_
    rintro e w1 ⟨rfl,hb1⟩
    have HB3:=Lib.hid (HB2.out.trans (hb1.mono HB2.out.size))
    clear hb1 hrow
    go_wp2_with fail
    go_ret
    exact⟨ret_i HF2.out.symm,HB3.out⟩
  ·obtain rfl:k=x.src.length:=by omega
   have HF1:Hid (F=firstE s (segArgs x.segs++regsV (argsV u x).toNat)):=Lib.hid (by rw [HFk.out,List.drop_eq_nil_of_le (Nat.le_refl _)];rfl)
   have j9:=(HI.out.below HB.out).c9
   clear HFk HF
   go_wp2_with fail
   go_loopw [43] (fun iv wx=> ∃k:Nat,k<=x.segs.length/\iv= .int .i64 k/\Hid (F=firstE s (segArgs (x.segs.drop k)++regsV (argsV u x).toNat))/\Hid (Below w.heap.size w wx)) (fun iv _=>x.segs.length-(intOf iv).toNat)
   case atStart=>exact⟨0,Nat.zero_le _,rfl,Lib.hid (by rw [List.drop_zero];exact HF1.out),HB⟩
   case round=>
    obtain⟨k,hk,rfl,HFk,HB⟩:=hrel
    rename World=>wx
    by_cases hlt:k<x.segs.length
    ·have hgd:=seg_drop hlt
     have hmem:=List.getElem_mem hlt
     have hao:=HA.out.val _ hmem
     have hbo:=HA.out.size _ hmem
     obtain⟨sb,off,hso,hsb,q0,q1,q2,q3,q4,q5,-⟩:=(HI.out.below HB.out).segs.seg hlt
     subst hso
     generalize x.segs[k]=g at *
     have hcv:=HK.out _ hao
     have hcs:=HK.out g.size
     generalize hkv:kindE s g.val=kv at *
     generalize kindT u s g.val=tv at *
     generalize hks:kindE s g.size=ks at *
     generalize kindT u s g.size=ts at *
     have HCV:=Lib.hid hcv;have HCS:=Lib.hid hcs;have HBO:=Lib.hid hbo;have HGD:=Lib.hid hgd
     have HKV:=Lib.hid hkv;have HKS:=Lib.hid hks
     clear hcv hcs hbo hgd hkv hks hao hmem
     have hI0:(0:Int)<=(k:Int):=by omega
     have hI1:(k:Int)<(x.segs.length:Int):=by omega
     have hB2:Below w.heap.size w (wx.alloc (.cells #[.int .i64 g.type,.int .i64 g.val.kind,.int .i64 g.val.n,.int .i64 g.size.kind,.int .i64 g.size.n,.bool g.little] 113)):=HB.out.alloc HB.out.size _
     have hrow:=heap_alloc_new wx (.cells #[.int .i64 g.type,.int .i64 g.val.kind,.int .i64 g.val.n,.int .i64 g.size.kind,.int .i64 g.size.n,.bool g.little] 113)
     go_upto_region 11 with fail
     generalize wx.alloc (.cells #[.int .i64 g.type,.int .i64 g.val.kind,.int .i64 g.val.n,.int .i64 g.size.kind,.int .i64 g.size.n,.bool g.little] 113)=V at *
     generalize wx.heap.size=X at *
     have HB2:=Lib.hid hB2;have HROW:=Lib.hid hrow
     have y1:V.cell? ⟨X,1,none⟩=some (.int .i64 g.val.kind):=by rw [cell_of_row _ _ _ _ _ _ hrow];rfl
     have y2:V.cell? ⟨X,2,none⟩=some (.int .i64 g.val.n):=by rw [cell_of_row _ _ _ _ _ _ hrow];rfl
     clear hB2 hrow q0 q1 q2 q3 q4 q5
     by_cases h0:kv=0
     ·have t0 : (kv != 0) = false := by rw [h0]; rfl
      have HF2:Hid (F=firstE s ((if g.size.kind=0/\g.size.n=0 then segArgs (x.segs.drop (k+1))else g.size::segArgs (x.segs.drop (k+1)))++regsV (argsV u x).toNat)):=Lib.hid (by
       rw [HFk.out,HGD.out,List.cons_append,firstE_good (by rw [HKV.out];exact h0)])
      clear h0 HFk HGD
      go_wp2_with fail
      refine(HCV.out _ HB2.out).mono ?_
      rintro e w1 ⟨rfl,hb1⟩
      have hr1:=(hb1.block X (lt_of_row HROW.out)).trans HROW.out
      have HB3:=Lib.hid (HB2.out.trans (hb1.mono HB2.out.size))
      have y3:w1.cell? ⟨X,3,none⟩=some (.int .i64 g.size.kind):=by rw [cell_of_row _ _ _ _ _ _ hr1];rfl
      have y4:w1.cell? ⟨X,4,none⟩=some (.int .i64 g.size.n):=by rw [cell_of_row _ _ _ _ _ _ hr1];rfl
      clear hb1 hr1
      go_upto_region 14 with fail
      by_cases d:g.size.kind=0/\g.size.n=0
      ·have t1:(g.size.kind==0)=true:=beq_iff_eq.2 d.1
       have t2:(g.size.n==0)=true:=beq_iff_eq.2 d.2
       have HF3:Hid (F=firstE s (segArgs (x.segs.drop (k+1))++regsV (argsV u x).toNat)):=Lib.hid (by rw [HF2.out,if_pos d])
       clear d HF2 HKS HKV HBO HCS HCV
       generalize g.size.kind=sk at *
       generalize g.size.n=sn at *
       go_wp2_with fail
       exact⟨⟨k+1,hlt,by go_num,HF3,HB3⟩,by simp [intOf];omega⟩
      ·have HCS2:=Lib.hid (HCS.out (HBO.out d))
       by_cases d1:g.size.kind=0
       ·have t1:(g.size.kind==0)=true:=beq_iff_eq.2 d1
        have t2:(g.size.n==0)=false:=beq_eq_false_iff_ne.2 fun h=>d ⟨d1,h⟩
        clear d1
        by_cases h1:ks=0
        ·have t3 : (ks != 0) = false := by rw [h1]; rfl
         have HF4:Hid (F=firstE s (segArgs (x.segs.drop (k+1))++regsV (argsV u x).toNat)):=Lib.hid (by
          rw [HF2.out,if_neg d,List.cons_append,firstE_good (by rw [HKS.out];exact h1)])
         clear h1 d HF2 HKS HKV HBO HCS HCV HK HA
         generalize hsk:g.size.kind=sk at *
         generalize hsn:g.size.n=sn at *
         clear hsk hsn
         go_wp2_with fail
         refine(HCS2.out _ HB3.out).mono ?_
         rintro e w2 ⟨rfl,hb2⟩
         have HB4:=Lib.hid (HB3.out.trans (hb2.mono HB3.out.size))
         clear hb2
         go_wp2_with fail
         exact⟨⟨k+1,hlt,by go_num,HF4,HB4⟩,by simp [intOf];omega⟩
        ·have t3 : (ks != 0) = true := by simpa using h1
         have HF4:Hid (R=ks):=Lib.hid (by
          have e:F=ks:=by rw [HF2.out,if_neg d,List.cons_append,firstE_bad (by rw [HKS.out];exact h1),HKS.out]
          rw [HR.out,e,if_pos h1])
         clear h1 d HF2 HKS HKV HBO HCS HCV HK HA
         generalize hsk:g.size.kind=sk at *
         generalize hsn:g.size.n=sn at *
         clear hsk hsn
         go_wp2_with fail
         refine(HCS2.out _ HB3.out).mono ?_
         rintro e w2 ⟨rfl,hb2⟩
         have HB4:=Lib.hid (HB3.out.trans (hb2.mono HB3.out.size))
         clear hb2
         go_wp2_with fail
         go_ret
         exact⟨ret_i HF4.out.symm,HB4.out⟩
       ·have t1:(g.size.kind==0)=false:=beq_eq_false_iff_ne.2 d1
        clear d1
        by_cases h1:ks=0
        ·have t3 : (ks != 0) = false := by rw [h1]; rfl
         have HF4:Hid (F=firstE s (segArgs (x.segs.drop (k+1))++regsV (argsV u x).toNat)):=Lib.hid (by
          rw [HF2.out,if_neg d,List.cons_append,firstE_good (by rw [HKS.out];exact h1)])
         clear h1 d HF2 HKS HKV HBO HCS HCV HK HA
         generalize hsk:g.size.kind=sk at *
         generalize hsn:g.size.n=sn at *
         clear hsk hsn
         go_wp2_with fail
         refine(HCS2.out _ HB3.out).mono ?_
         rintro e w2 ⟨rfl,hb2⟩
         have HB4:=Lib.hid (HB3.out.trans (hb2.mono HB3.out.size))
         clear hb2
         go_wp2_with fail
         exact⟨⟨k+1,hlt,by go_num,HF4,HB4⟩,by simp [intOf];omega⟩
        ·have t3 : (ks != 0) = true := by simpa using h1
         have HF4:Hid (R=ks):=Lib.hid (by
          have e:F=ks:=by rw [HF2.out,if_neg d,List.cons_append,firstE_bad (by rw [HKS.out];exact h1),HKS.out]
          rw [HR.out,e,if_pos h1])
         clear h1 d HF2 HKS HKV HBO HCS HCV HK HA
         generalize hsk:g.size.kind=sk at *
         generalize hsn:g.size.n=sn at *
         clear hsk hsn
         go_wp2_with fail
         refine(HCS2.out _ HB3.out).mono ?_
         rintro e w2 ⟨rfl,hb2⟩
         have HB4:=Lib.hid (HB3.out.trans (hb2.mono HB3.out.size))
         clear hb2
         go_wp2_with fail
         go_ret
         exact⟨ret_i HF4.out.symm,HB4.out⟩
     ·have t0 : (kv != 0) = true := by simpa using h0
      have HF2:Hid (R=kv):=Lib.hid (by
       have e:F=kv:=by rw [HFk.out,HGD.out,List.cons_append,firstE_bad (by rw [HKV.out];exact h0),HKV.out]
       rw [HR.out,e,if_pos h0])
      clear h0
      go_wp2_with fail
      refine(HCV.out _ HB2.out).mono ?_
      rintro e w1 ⟨rfl,hb1⟩
      have HB3:=Lib.hid (HB2.out.trans (hb1.mono HB2.out.size))
      clear hb1
      go_wp2_with fail
      go_ret
      exact⟨ret_i HF2.out.symm,HB3.out⟩
    ·obtain rfl:k=x.segs.length:=by omega
     obtain⟨N,hN⟩: ∃N:Nat,argsV u x=(N:Int):=Int.eq_ofNat_of_zero_le HA.out.num.1
     have hN2:N<=1000:=by have:=HA.out.num.2;omega
     have HF2:Hid (F=firstE s (regsV N)):=Lib.hid (by rw [HFk.out,List.drop_eq_nil_of_le (Nat.le_refl _),hN];rfl)
     have harg:=varguments_any E U mb b o at' u lo fo go co lc fc gc cc mc x so co' _ sc cc' gc' wx (HX.out.below HB.out) (HI.out.below HB.out) HA.out.args
     rw [hN]at harg
     have HARG:=Lib.hid harg
     clear harg hN HFk HF1
     go_wp2_with fail
     refine HARG.out.mono ?_
     rintro e w1 ⟨rfl,nq,rfl⟩
     have HB2:Hid (Below w.heap.size w (wx.drewN nq)):=Lib.hid (below_drewN HB.out nq)
     generalize wx.drewN nq=wy at *
     go_wp2_with fail
     go_loopw [77] (fun iv wz=> ∃k:Nat,k<=N/\iv= .int .i64 k/\Hid (F=firstE s ((regsV N).drop k))/\Hid (Below w.heap.size w wz)) (fun iv _=>N-(intOf iv).toNat)
     case atStart=>exact⟨0,Nat.zero_le _,rfl,Lib.hid (by rw [List.drop_zero];exact HF2.out),HB2⟩
     case round=>
      obtain⟨k,hk,rfl,HFk,HB3⟩:=hrel
      rename World=>wz
      by_cases hlt:k<N
      ·have hgd:=regs_drop N hlt
       have hlx:=ho.len.x
       have hreg:=vregister_any p s (k:Int) wz (HS.out.below HB3.out) ⟨by omega,by omega⟩ (by omega)
       have hke:kindE s ⟨1,(k:Int)⟩=if typT s.x (k:Int)=0 then 186 else 0:=by unfold kindE;rw [if_pos rfl]
       have HREG:=Lib.hid hreg;have HGD:=Lib.hid hgd;have HKE:=Lib.hid hke
       clear hreg hgd hke
       generalize typT s.x (k:Int)=ty at *
       by_cases h0:ty=0
       ·have t0:(ty==0)=true:=beq_iff_eq.2 h0
        have HR2:Hid (R=186):=Lib.hid (by
         have hk1:kindE s ⟨1,(k:Int)⟩=186:=by rw [HKE.out,if_pos h0]
         have e:F=186:=by rw [HFk.out,HGD.out,firstE_bad (by rw [hk1];decide),hk1]
         rw [HR.out,e,if_pos (by decide)])
        clear h0
        go_wp2_with fail
        refine HREG.out.mono ?_
        rintro e w1 ⟨rfl,rfl⟩
        go_wp2_with fail
        go_ret
        exact⟨ret_i HR2.out.symm,HB3.out⟩
       ·have t0:(ty==0)=false:=beq_eq_false_iff_ne.2 h0
        have HF4:Hid (F=firstE s ((regsV N).drop (k+1))):=Lib.hid (by
         rw [HFk.out,HGD.out,firstE_good (by rw [HKE.out,if_neg h0])])
        clear h0
        go_wp2_with fail
        refine HREG.out.mono ?_
        rintro e w1 ⟨rfl,rfl⟩
        go_wp2_with fail
        exact⟨⟨k+1,hlt,by go_num,HF4,HB3⟩,by simp [intOf];omega⟩
      ·obtain rfl:k=N:=by omega
       have HF3:Hid (F=0):=Lib.hid (by
        rw [HFk.out,List.drop_eq_nil_of_le (by unfold regsV;simp)];rfl)
       have HRF:Hid (R=if x.dst.kind=2/\s.frame<=x.dst.n then 181 else 0):=Lib.hid (by rw [HR.out,HF3.out,if_neg (by simp)])
       have jb:=HI.out.below HB3.out
       have j1:=jb.c1;have j2:=jb.c2
       obtain⟨xo,xc,yo,yc,to',tc,c0,c1,c2,c3,c4,c5,c6,hL⟩:=(HS.out.below HB3.out).cells
       clear jb c1 c2 c3 c4 c5 c6 hL HFk HF2 HR
       generalize hdk:x.dst.kind=dk at *
       generalize hdn:x.dst.n=dn at *
       generalize hfr:s.frame=fr at *
       clear hdk hdn hfr
       by_cases d1:dk=2
       ·have t1:(dk==2)=true:=beq_iff_eq.2 d1
        by_cases d2:fr<=dn
        ·have t2:decide (fr<=dn)=true:=decide_eq_true d2
         have HR2:Hid ((181:Int)=R):=Lib.hid (by rw [HRF.out,if_pos ⟨d1,d2⟩])
         clear d1 d2
         clear HRF HK HA HF3
         go_wp2_with fail
         go_quiet ((go_at_call 93;exact Calls.quiet_of_same (when_any _ _ _)))
         go_wp2_with fail
         go_ret
         exact⟨ret_i HR2.out,below_drewN HB3.out _⟩
        ·have t2:decide (fr<=dn)=false:=decide_eq_false d2
         have HR2:Hid ((0:Int)=R):=Lib.hid (by rw [HRF.out,if_neg (fun g=>d2 g.2)])
         clear d1 d2
         clear HRF HK HA HF3
         go_wp2_with fail
         go_quiet ((go_at_call 93;exact Calls.quiet_of_same (when_any _ _ _)))
         go_wp2_with fail
         go_ret
         exact⟨ret_i HR2.out,below_drewN HB3.out _⟩
       ·have t1:(dk==2)=false:=beq_eq_false_iff_ne.2 d1
        have HR2:Hid ((0:Int)=R):=Lib.hid (by rw [HRF.out,if_neg (fun g=>d1 g.1)])
        clear d1
        clear HRF HK HA HF3
        go_wp2_with fail
        go_quiet ((go_at_call 93;exact Calls.quiet_of_same (when_any _ _ _)))
        go_wp2_with fail
        go_ret
        exact⟨ret_i HR2.out,below_drewN HB3.out _⟩
theorem vhits_any (a t k:Int) (B:Nat) (w:World) (hB:B<w.heap.size) (hk:w.cell? ⟨B,0,none⟩=some (.int .i64 k)):
  Calls Tryz.prog 101 #[.agg #[.int .i64 a,.int .i64 t],.pointer (some ⟨B,0,none⟩)] w fun e w'=>e= .returned (.bool (t==k))/\Below w.heap.size w w':=by
 have hb0:=(Below.refl w.heap.size w).alloc (Nat.le_refl _) (.cells #[.int .i64 a,.int .i64 t] 111)
 have k1:=(hb0.cell (p:=⟨B,0,none⟩) hB).trans hk
 have HB:=Lib.hid hb0
 clear hb0
 go_in
 go_wp2_with fail
 go_ret
 exact⟨rfl,HB.out⟩
def caseTo (k:Int) (c:RCase):Bool:=c.to==k
theorem vindex_any (cs:List RCase) (co:Option Addr) (cc:Nat) (k:Int) (B:Nat) (w:World) (hB:B<w.heap.size) (hk:w.cell? ⟨B,0,none⟩=some (.int .i64 k)) (hc:SlAt w 2 CaseR co cs) (hl:cs.length<=1000):
  Calls Tryz.prog 142 #[.slice co cs.length cc,.func (.func 101) #[] #[.pointer (some ⟨B,0,none⟩)]] w fun e w'=>(∃r:Int,e= .returned (.int .i64 r)/\Hid (decide (0<=r)=cs.any (caseTo k)))/\Below w.heap.size w w':=by
 have HC:=Lib.hid hc;have HK:=Lib.hid hk
 clear hc hk
 obtain⟨m,hm⟩: ∃m,m=cs.length:=⟨_,rfl⟩
 rw [<-hm]at hl ⊢
 have HM:=Lib.hid hm
 clear hm
 go_in
 go_wp2_with fail
 go_loopw [8] (fun iv wr=> ∃j:Nat,j<=m/\iv= .int .i64 j/\Hid (cs.any (caseTo k)=(cs.drop j).any (caseTo k))/\Hid (Below w.heap.size w wr)) (fun iv _=>m-(intOf iv).toNat)
 case atStart=>exact⟨0,Nat.zero_le _,rfl,Lib.hid (by rw [List.drop_zero]),Lib.hid (Below.refl _ _)⟩
 case round=>
  obtain⟨j,hj,rfl,HA,HF⟩:=hrel
  rename World=>wr
  by_cases hlt:j<m
  ·have hjx:j<cs.length:=by rw [<-HM.out];exact hlt
   obtain⟨cb,cf,hco,hcb,q0,q1,-,-⟩:=(HC.out.mono HF.out (fun _ _ h=>h)).case hjx
   subst hco
   have hd:(cs.drop j).any (caseTo k)=((cs[j].to==k)||(cs.drop (j+1)).any (caseTo k)):=by rw [List.drop_eq_getElem_cons hjx,List.any_cons];rfl
   have HD:=Lib.hid hd
   clear hd
   have hcal:=vhits_any cs[j].lit cs[j].to k B wr (Nat.lt_of_lt_of_le hB HF.out.size) ((HF.out.cell (p:=⟨B,0,none⟩) hB).trans HK.out)
   generalize cs[j].lit=a at *
   generalize cs[j].to=t at *
   have HCA:=Lib.hid hcal
   have hI0:(0:Int)<=(j:Int):=by omega
   have hI1:(j:Int)<(m:Int):=by omega
   clear hcal
   generalize(t==k)=b at *
   cases b with
   |true=>
    have E:Hid (decide ((0:Int)<=(j:Int))=cs.any (caseTo k)):=Lib.hid (by rw [HA.out,HD.out,decide_eq_true hI0];rfl)
    clear HA HD
    go_wp2_with fail
    refine HCA.out.mono ?_
    rintro e w1 ⟨rfl,hb1⟩
    have HB1:=Lib.hid (HF.out.trans (hb1.mono HF.out.size))
    clear hb1
    go_wp2_with fail
    go_ret
    exact⟨⟨_,rfl,E⟩,HB1.out⟩
   |false=>
    have E:Hid (cs.any (caseTo k)=(cs.drop (j+1)).any (caseTo k)):=Lib.hid (by rw [HA.out,HD.out];rfl)
    clear HA HD
    go_wp2_with fail
    refine HCA.out.mono ?_
    rintro e w1 ⟨rfl,hb1⟩
    have HB1:=Lib.hid (HF.out.trans (hb1.mono HF.out.size))
    clear hb1
    go_wp2_with fail
    go_roundw
    case rel=>exact⟨j+1,by omega,by go_num,E,HB1⟩
    case measure=>simp [intOf];omega
  ·obtain rfl:j=m:=by omega
   have E:Hid (decide ((0:Int)<= -1)=cs.any (caseTo k)):=Lib.hid (by rw [HA.out,List.drop_eq_nil_of_le (Nat.le_of_eq HM.out.symm)];rfl)
   clear HA
   go_wp2_with fail
   go_ret
   exact⟨⟨_,rfl,E⟩,HF.out⟩
theorem vcontains_any (cs:List RCase) (co:Option Addr) (cc:Nat) (k:Int) (B:Nat) (w:World) (hB:B<w.heap.size) (hk:w.cell? ⟨B,0,none⟩=some (.int .i64 k)) (hc:SlAt w 2 CaseR co cs) (hl:cs.length<=1000):
  Calls Tryz.prog 100 #[.slice co cs.length cc,.func (.func 101) #[] #[.pointer (some ⟨B,0,none⟩)]] w fun e w'=>e= .returned (.bool (cs.any (caseTo k)))/\Below w.heap.size w w':=by
 have H:=Lib.hid (vindex_any cs co cc k B w hB hk hc hl)
 clear hc hk hl
 generalize cs.any (caseTo k)=R at *
 go_in
 go_wp2_with fail
 refine H.out.mono ?_
 rintro e w1 ⟨⟨r,rfl,HR⟩,hb1⟩
 have HB:=Lib.hid hb1
 clear hb1 H
 go_wp2_with fail
 go_ret
 exact⟨retb HR.out,HB.out⟩
theorem bytes_toList (s:ByteArray):s.toList=s.data.toList:=by rw [ByteArray.toList_eq]
theorem vresult_any (E U mb p b o:Nat) (at':Int) (u:RUnit) (lo fo go co:Option Addr) (lc fc gc cc mc:Nat) (x:RIns) (s:VSt) (so co' go':Option Addr) (sc cc' gc':Nat) (w:World) (hx:VCx w E U mb at' u lo fo go co lc fc gc cc mc) (hi:IBox w b o x so co' go' sc cc' gc') (hs:StAt w p s) (ho:StOk s) (hl:LitsLen u)
  (hsrc:x.op=1->0<x.src.length/\ArgOk u s (src0 x)) (hsl:x.src.length<=1000):
  Calls Tryz.prog 135 #[.pointer (some ⟨E,0,none⟩),.pointer (some ⟨p,0,none⟩),.pointer (some ⟨b,o,none⟩)] w fun e w'=>e= .returned (.int .i64 (resultV u s x))/\Below w.heap.size w w':=by
 have i0:=hi.c0;have i3:=hi.c3;have i7:=hi.c7
 have HR:Hid (resultV u s x=if x.op=1 then kindT u s (src0 x)else if x.op=2∨x.op=13/\x.name.data.toList= [123,125]then 3+(x.src.length:Int)else if x.op=3∨x.op=13/\x.name.data.toList= [124]then 2 else 1):=Lib.hid rfl
 generalize resultV u s x=R at *
 by_cases h1:x.op=1
 ·obtain⟨hl0,hao⟩:=hsrc h1
  obtain⟨sb,off,rfl,hsb,q0,q1,-,-⟩:=hi.src.arg hl0
  have hsrc0:src0 x=x.src[0]:=by
   unfold src0
   rw [List.headD_eq_head?_getD,List.head?_eq_getElem?,List.getElem?_eq_getElem hl0];rfl
  have hkind:=vkind_any E U mb p at' u lo fo go co lc fc gc cc mc s (src0 x) w hx hs ho hao hl
  rw [<-hsrc0]at q0 q1
  simp only [Nat.zero_mul,Nat.add_zero]at q0 q1
  have HR2:Hid (R=kindT u s (src0 x)):=Lib.hid (by rw [HR.out,if_pos h1])
  have HK:=Lib.hid hkind
  clear hkind hi hsrc hao hsrc0 hx hs HR i7
  generalize kindT u s (src0 x)=kt at *
  generalize src0 x=a at *
  have hI1:(0:Int)<(x.src.length:Int):=by omega
  generalize x.src.length=sl at *
  rw [h1]at i0
  clear h1
  go_in
  go_wp2_with fail
  refine HK.out.mono ?_
  rintro e w1 ⟨rfl,hb1⟩
  go_wp2_with fail
  go_ret
  exact⟨ret_i HR2.out.symm,hb1⟩
 ·have t1:(x.op==1)=false:=beq_eq_false_iff_ne.2 h1
  have hw:IntKind.i64.wrap (3+(x.src.length:Int))=3+(x.src.length:Int):=by rw [IntKind.wrap_i64];omega
  clear hi hsrc hx hs hsl
  generalize x.src.length=sl at *
  generalize x.op=op at *
  generalize x.name=nm at *
  by_cases h2:op=2
  ·have t2:(op==2)=true:=beq_iff_eq.2 h2
   have HR2:Hid (R=3+(sl:Int)):=Lib.hid (by rw [HR.out,if_neg h1,if_pos (.inl h2)])
   clear HR h1 h2
   go_in
   go_wp2_with fail
   go_ret
   exact⟨ret_i HR2.out.symm,Below.refl _ _⟩
  ·have t2:(op==2)=false:=beq_eq_false_iff_ne.2 h2
   by_cases h3:op=3
   ·have t3:(op==3)=true:=beq_iff_eq.2 h3
    have t13:(op==13)=false:=by rw [beq_eq_false_iff_ne];omega
    have HR2:Hid (R=2):=Lib.hid (by rw [HR.out,if_neg h1,if_neg (by omega),if_pos (.inl h3)])
    clear HR h1 h2 h3
    go_in
    go_wp2_with fail
    go_ret
    exact⟨ret_i HR2.out.symm,Below.refl _ _⟩
   ·have t3:(op==3)=false:=beq_eq_false_iff_ne.2 h3
    by_cases h13:op=13
    ·have t13:(op==13)=true:=beq_iff_eq.2 h13
     by_cases n1:nm.data.toList= [123,125]
     ·have m1:(nm.toList== [123,125])=true:=by rw [bytes_toList,n1];rfl
      have HR2:Hid (R=3+(sl:Int)):=Lib.hid (by rw [HR.out,if_neg h1,if_pos (.inr ⟨h13,n1⟩)])
      clear HR h1 h2 h3 h13 n1
      go_in
      go_wp2_with fail
      go_ret
      exact⟨ret_i HR2.out.symm,Below.refl _ _⟩
     ·have m1:(nm.toList== [123,125])=false:=by rw [bytes_toList,beq_eq_false_iff_ne];exact n1
      by_cases n2:nm.data.toList= [124]
      ·have m2:(nm.toList== [124])=true:=by rw [bytes_toList,n2];rfl
       have HR2:Hid (R=2):=Lib.hid (by rw [HR.out,if_neg h1,if_neg (fun g=>g.elim h2 fun g=>n1 g.2),if_pos (.inr ⟨h13,n2⟩)])
       clear HR h1 h2 h3 h13 n1 n2
       go_in
       go_wp2_with fail
       go_ret
       exact⟨ret_i HR2.out.symm,Below.refl _ _⟩
      ·have m2:(nm.toList== [124])=false:=by rw [bytes_toList,beq_eq_false_iff_ne];exact n2
       have HR2:Hid (R=1):=Lib.hid (by rw [HR.out,if_neg h1,if_neg (fun g=>g.elim h2 fun g=>n1 g.2),if_neg (fun g=>g.elim h3 fun g=>n2 g.2)])
       clear HR h1 h2 h3 h13 n1 n2
       go_in
       go_wp2_with fail
       go_ret
       exact⟨ret_i HR2.out.symm,Below.refl _ _⟩
    ·have t13:(op==13)=false:=beq_eq_false_iff_ne.2 h13
     have HR2:Hid (R=1):=Lib.hid (by rw [HR.out,if_neg h1,if_neg (fun g=>g.elim h2 fun g=>h13 g.1),if_neg (fun g=>g.elim h3 fun g=>h13 g.1)])
     clear HR h1 h2 h3 h13
     go_in
     go_wp2_with fail
     go_ret
     exact⟨ret_i HR2.out.symm,Below.refl _ _⟩
end Go.Proofs.YtepjanajflkakaaGreatDoor
