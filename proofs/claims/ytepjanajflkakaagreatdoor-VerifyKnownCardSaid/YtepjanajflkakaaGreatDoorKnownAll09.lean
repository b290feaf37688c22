/- part 9 -/
import Derived.RangeFuncBox
import Derived.RangeFuncLeaves
import Derived.Shelf.Abstract
import Derived.OwnWalkIn
import Derived.TacticsInMore
import Derived.LoopNIn
import Derived.LoopIn
import Derived.Maps.AppendAt
import Derived.RangeFuncNested
import Derived.Sort.OwnSortedInts
import Derived.Test.YtepjanajflkakaaGreatDoorKnownAll02
import Derived.Test.YtepjanajflkakaaGreatDoorKnownAll03
import Derived.Test.YtepjanajflkakaaGreatDoorKnownAll04
import Derived.Test.YtepjanajflkakaaGreatDoorKnownAll05
namespace Go.Proofs.YtepjanajflkakaaGreatDoor
open Go.RowKit
set_option linter.unusedVariables false
set_option linter.unusedSimpArgs false
set_option maxRecDepth 100000
set_option maxHeartbeats 40000000
def opAt (code:List RIns) (i:Int):Int:=((code[i.toNat]?).map RIns.op).getD 0
def targetsB (code:List RIns) (i:Nat) (x:RIns) (h:Nat):Bool:=
 if x.op=39∨x.op=40 then wi x.to 0 ((code.length:Int)-1)&&(opAt code x.to==37)
 else x.cases.all (fun c=>wi c.to ((i:Int)+1) ((code.length:Int)-1))&&(!hasB h 64||wi x.to ((i:Int)+1) ((code.length:Int)-1))
theorem targets_jump (B:Nat) (u:RUnit) (lo fo go:Option Addr) (lc fc gc cc:Nat) (bc oc:Nat) (i:Nat) (h l' h':Int) (so co' go':Option Addr) (sc cc' gc':Nat) (w:World) (hu:UBox w B u lo fo go (some ⟨bc,oc,none⟩) lc fc gc cc) (hcode:SlAt w 10 (InsR w) (some ⟨bc,oc,none⟩) u.code) (hl:u.code.length<=9223372036854775807) (hi:i<u.code.length)
  (x:RIns) (hx:IBox w bc (oc+i*10) x so co' go' sc cc' gc') (hop:x.op=39∨x.op=40) (hn:Nat):
  Calls Tryz.prog 44 #[.pointer (some ⟨B,0,none⟩),.int .i64 i,.agg #[.int .i64 h,.int .i64 l',.int .i64 h']] w fun e w'=>e= .returned (.bool (targetsB u.code i x hn))/\Below w.heap.size w w':=by
 have hbe:Below w.heap.size w (w.alloc (.cells #[.int .i64 h,.int .i64 l',.int .i64 h'] 97)):=(Below.refl _ _).alloc (Nat.le_refl _) _
 have b5:=(hu.below hbe).c5
 have hxb:=hx.below hbe
 have c0:=hxb.c0;have c4:=hxb.c4
 have hBl:=(hu.below hbe).lt
 have hbl:=hxb.lt
 have hw1:IntKind.i64.wrap ((u.code.length:Int)-1)=(u.code.length:Int)-1:=by rw [IntKind.wrap_i64];omega
 have hwc:=fun wx=>within_any x.to 0 ((u.code.length:Int)-1) wx
 have HBE:=Lib.hid hbe
 have E0:Hid (targetsB u.code i x hn=(wi x.to 0 ((u.code.length:Int)-1)&&(opAt u.code x.to==37))):=Lib.hid (by unfold targetsB;rw [if_pos hop])
 have HCO:=Lib.hid hcode
 clear hu hx hxb hcode
 generalize hxo:x.op=xo at *
 have hE: ∀j,j<u.code.length->True:=fun _ _=>trivial
 clear hE hxo
 by_cases hin:0<=x.to/\x.to<=(u.code.length:Int)-1
 ·have hwi:=wi_yes hin.1 hin.2
  rw [hwi]at hwc
  obtain⟨m,hm⟩: ∃m:Nat,x.to=(m:Int):=⟨x.to.toNat,by omega⟩
  have hml:m<u.code.length:=by omega
  obtain⟨b2,o2,so2,co2,go2,sc2,cc2,gc2,hao,hmx⟩:=ibox_of HCO.out hml
  obtain⟨rfl,rfl⟩:bc=b2/\oc=o2:=by injection hao with h;injection h with h1 h2;exact⟨h1,h2⟩
  have d0:=(hmx.below HBE.out).c0
  have hop2:opAt u.code x.to=(u.code[m]).op:=by unfold opAt;rw [hm,Int.toNat_natCast,List.getElem?_eq_getElem hml];rfl
  rw [hwi,hop2,Bool.true_and]at E0
  rw [hm]at hwc c4
  generalize(u.code[m]).op=oo at *
  have E1:=Lib.hid E0.out
  clear hmx hao hin hwi hop2 hm HCO E0
  generalize targetsB u.code i x hn=r at *
  cases hq:(oo==37)
  all_goals
   rw [hq]at E1
   rcases hop with rfl|rfl
   all_goals
    go_enter Tryz.func44,Tryz.ntmps44
    go_wp2_with fail
    go_quiet (fail)
    have HQ:=Lib.hid (below_drewN HBE.out nq)
    have b5':((w.alloc (.cells #[.int .i64 h,.int .i64 l',.int .i64 h'] 97)).drewN nq).cell? ⟨B,5,none⟩=some (.slice (some ⟨bc,oc,none⟩) u.code.length cc):=b5
    have c0':((w.alloc (.cells #[.int .i64 h,.int .i64 l',.int .i64 h'] 97)).drewN nq).cell? ⟨bc,oc+i*10,none⟩=_:=c0
    have c4':((w.alloc (.cells #[.int .i64 h,.int .i64 l',.int .i64 h'] 97)).drewN nq).cell? ⟨bc,oc+i*10+4,none⟩=_:=c4
    have d0':((w.alloc (.cells #[.int .i64 h,.int .i64 l',.int .i64 h'] 97)).drewN nq).cell? ⟨bc,oc+m*10,none⟩=_:=d0
    clear b5 c0 c4 d0 HBE
    generalize(w.alloc (.cells #[.int .i64 h,.int .i64 l',.int .i64 h'] 97)).drewN nq=W1 at *
    go_wp2_with fail
    go_quiet ((go_at_call 71;exact Calls.quiet_of_same ((hwc _).mono fun _ _ ⟨a,b⟩=>⟨a,b.symm⟩)))
    go_wp2_with fail
    go_ret
    exact⟨retb E1.out.symm,below_drewN HQ.out _⟩
 ·have hwi:=wi_no hin
  rw [hwi]at hwc
  rw [hwi,Bool.false_and]at E0
  have E1:=Lib.hid E0.out
  clear hin hwi HCO E0
  generalize targetsB u.code i x hn=r at *
  rcases hop with rfl|rfl
  all_goals
   go_enter Tryz.func44,Tryz.ntmps44
   go_wp2_with fail
   go_quiet (fail)
   have HQ:=Lib.hid (below_drewN HBE.out nq)
   have b5':((w.alloc (.cells #[.int .i64 h,.int .i64 l',.int .i64 h'] 97)).drewN nq).cell? ⟨B,5,none⟩=some (.slice (some ⟨bc,oc,none⟩) u.code.length cc):=b5
   have c0':((w.alloc (.cells #[.int .i64 h,.int .i64 l',.int .i64 h'] 97)).drewN nq).cell? ⟨bc,oc+i*10,none⟩=_:=c0
   have c4':((w.alloc (.cells #[.int .i64 h,.int .i64 l',.int .i64 h'] 97)).drewN nq).cell? ⟨bc,oc+i*10+4,none⟩=_:=c4
   clear b5 c0 c4 HBE
   generalize(w.alloc (.cells #[.int .i64 h,.int .i64 l',.int .i64 h'] 97)).drewN nq=W1 at *
   go_wp2_with fail
   go_quiet ((go_at_call 71;exact Calls.quiet_of_same ((hwc _).mono fun _ _ ⟨a,b⟩=>⟨a,b.symm⟩)))
   go_wp2_with fail
   go_ret
   exact⟨retb E1.out.symm,below_drewN HQ.out _⟩
theorem targets_rest (B:Nat) (u:RUnit) (lo fo go:Option Addr) (lc fc gc cc:Nat) (bc oc:Nat) (i:Nat) (hn:Nat) (l' h':Int) (so co' go':Option Addr) (sc cc' gc':Nat) (w:World) (hu:UBox w B u lo fo go (some ⟨bc,oc,none⟩) lc fc gc cc) (hl:u.code.length<=9223372036854775807) (hi:i<u.code.length)
  (x:RIns) (hx:IBox w bc (oc+i*10) x so co' go' sc cc' gc') (hop: ¬(x.op=39∨x.op=40)) (hh:hn<1000):
  Calls Tryz.prog 44 #[.pointer (some ⟨B,0,none⟩),.int .i64 i,.agg #[.int .i64 hn,.int .i64 l',.int .i64 h']] w fun e w'=>e= .returned (.bool (targetsB u.code i x hn))/\Below w.heap.size w w':=by
 have hbe:Below w.heap.size w (w.alloc (.cells #[.int .i64 hn,.int .i64 l',.int .i64 h'] 97)):=(Below.refl _ _).alloc (Nat.le_refl _) _
 have hbr:=heap_alloc_new w (.cells #[.int .i64 hn,.int .i64 l',.int .i64 h'] 97)
 have b5:=(hu.below hbe).c5
 have hxb:=hx.below hbe
 have c0:=hxb.c0
 have hBl:=(hu.below hbe).lt
 have hbl:=hxb.lt
 have rc:=hxb.rcases
 have t39:(x.op==39)=false:=beq_eq_false_iff_ne.2 (fun h=>hop (.inl h))
 have t40:(x.op==40)=false:=beq_eq_false_iff_ne.2 (fun h=>hop (.inr h))
 have hw1:IntKind.i64.wrap ((u.code.length:Int)-1)=(u.code.length:Int)-1:=by rw [IntKind.wrap_i64];omega
 have hwc:=fun n wx=>within_any n ((i:Int)+1) ((u.code.length:Int)-1) wx
 have HBE:=Lib.hid hbe;have HBR:=Lib.hid hbr;have HX:=Lib.hid hxb
 have ha:bits .and .i64 (hn:Int) 64=((hn&&&64:Nat):Int):=and_i64 hn 64 (by omega) (by omega)
 have hab:((((hn&&&64:Nat):Int))==0)= !hasB hn 64:=by
  unfold hasB
  by_cases c:hn&&&64=0
  ·rw [c];rfl
  ·rw [decide_eq_true c];show _=false;rw [beq_eq_false_iff_ne];omega
 have E0:Hid (targetsB u.code i x hn=(x.cases.all (fun c=>wi c.to ((i:Int)+1) ((u.code.length:Int)-1))&&(!hasB hn 64||wi x.to ((i:Int)+1) ((u.code.length:Int)-1)))):=Lib.hid (by unfold targetsB;rw [if_neg hop])
 have HAB:=Lib.hid hab
 have HI:Hid (x.cases.all (fun c=>wi c.to ((i:Int)+1) ((u.code.length:Int)-1))=(x.cases.drop 0).all (fun c=>wi c.to ((i:Int)+1) ((u.code.length:Int)-1))):=Lib.hid rfl
 clear hu hx hxb hop hab hbr hbe
 generalize targetsB u.code i x hn=r at *
 go_enter Tryz.func44,Tryz.ntmps44
 go_wp2_with fail
 go_quiet (fail)
 have HQ:=Lib.hid (below_drewN HBE.out nq)
 have HQ2:Hid (Below (w.alloc (.cells #[.int .i64 hn,.int .i64 l',.int .i64 h'] 97)).heap.size (w.alloc (.cells #[.int .i64 hn,.int .i64 l',.int .i64 h'] 97)) ((w.alloc (.cells #[.int .i64 hn,.int .i64 l',.int .i64 h'] 97)).drewN nq)):=Lib.hid (below_drewN (Below.refl _ _) nq)
 have HX1:=Lib.hid (HX.out.below HQ2.out)
 have HR1:Hid (((w.alloc (.cells #[.int .i64 hn,.int .i64 l',.int .i64 h'] 97)).drewN nq).heap[w.heap.size]?=some (.cells #[.int .i64 hn,.int .i64 l',.int .i64 h'] 97 (0,0))):=Lib.hid HBR.out
 clear b5 c0 HBE HQ2 HX HBR hBl hbl
 generalize(w.alloc (.cells #[.int .i64 hn,.int .i64 l',.int .i64 h'] 97)).drewN nq=W1 at *
 have c0:=HX1.out.c0;have c8:=HX1.out.c8
 have hwi2:IntKind.i64.wrap ((i:Int)+1)=(i:Int)+1:=by rw [IntKind.wrap_i64];omega
 go_wp2_with fail
 go_loopw [55] (fun j wr=> ∃k:Nat,k<=x.cases.length/\j= .int .i64 k/\Hid (x.cases.all (fun c=>wi c.to ((i:Int)+1) ((u.code.length:Int)-1))=(x.cases.drop k).all (fun c=>wi c.to ((i:Int)+1) ((u.code.length:Int)-1)))/\Below W1.heap.size W1 wr) (fun j _=>x.cases.length-(intOf j).toNat)
 case atStart=>exact⟨0,Nat.zero_le _,rfl,HI,Below.refl _ _⟩
 case round=>
  obtain⟨k,hk,rfl,HK,hBw⟩:=hrel
  rename World=>wr
  by_cases hlt:k<x.cases.length
  ·obtain⟨b1,off1,hco,hb1,q0,q1,rl,rt⟩:=(HX1.out.below hBw).cases.case hlt
   subst hco
   have HST:Hid ((x.cases.drop k).all (fun c=>wi c.to ((i:Int)+1) ((u.code.length:Int)-1))=(wi x.cases[k].to ((i:Int)+1) ((u.code.length:Int)-1)&&(x.cases.drop (k+1)).all (fun c=>wi c.to ((i:Int)+1) ((u.code.length:Int)-1)))):=Lib.hid (by rw [List.drop_eq_getElem_cons hlt,List.all_cons])
   have hwc1:=fun wx=>hwc x.cases[k].to wx
   generalize wi x.cases[k].to ((i:Int)+1) ((u.code.length:Int)-1)=q at *
   generalize x.cases[k].to=ct at *
   generalize x.cases[k].lit=cl at *
   have HBA:Hid (Below W1.heap.size W1 (wr.alloc (.cells #[.int .i64 cl,.int .i64 ct] 111))):=Lib.hid (hBw.alloc hBw.size _)
   cases q with
   |true=>
    have HK2:Hid (x.cases.all (fun c=>wi c.to ((i:Int)+1) ((u.code.length:Int)-1))=(x.cases.drop (k+1)).all (fun c=>wi c.to ((i:Int)+1) ((u.code.length:Int)-1))):=Lib.hid (by rw [HK.out,HST.out,Bool.true_and])
    go_wp2_with (go_at_call 71;refine(hwc1 _).mono ?_;rintro e w1 ⟨rfl,rfl⟩)
    go_roundw
    case rel=>exact⟨k+1,by omega,by go_num,HK2,HBA.out⟩
    case measure=>simp [intOf];omega
   |false=>
    have E:Hid (r=false):=Lib.hid (by rw [E0.out,HK.out,HST.out];rfl)
    go_wp2_with (go_at_call 71;refine(hwc1 _).mono ?_;rintro e w1 ⟨rfl,rfl⟩)
    go_ret
    exact⟨retb E.out.symm,HQ.out.trans (HBA.out.mono HQ.out.size)⟩
  ·have EK:Hid (r=(!hasB hn 64||wi x.to ((i:Int)+1) ((u.code.length:Int)-1))):=Lib.hid (by rw [E0.out,HK.out,List.drop_eq_nil_of_le (by omega)];rfl)
   have hr:=(hBw.block w.heap.size (lt_of_row HR1.out)).trans HR1.out
   have n0:wr.cell? ⟨w.heap.size,0,none⟩=some (.int .i64 hn):=by rw [cell_of_row _ _ _ _ _ _ hr];rfl
   have c4:=(HX1.out.below hBw).c4
   have hwc1:=fun wx=>hwc x.to wx
   have hab:=HAB.out
   generalize wi x.to ((i:Int)+1) ((u.code.length:Int)-1)=q at *
   generalize hasB hn 64=hb at *
   clear hr
   generalize hn&&&64=z at *
   cases hb with
   |false=>
    have E:Hid (r=true):=Lib.hid (by rw [EK.out];rfl)
    go_wp2_with fail
    go_ret
    exact⟨retb E.out.symm,HQ.out.trans (hBw.mono HQ.out.size)⟩
   |true=>
    have E:Hid (r=q):=Lib.hid (by rw [EK.out];rfl)
    go_wp2_with (go_at_call 71;refine(hwc1 _).mono ?_;rintro e w1 ⟨rfl,rfl⟩)
    go_ret
    exact⟨retb E.out.symm,HQ.out.trans (hBw.mono HQ.out.size)⟩
theorem targets_any (B:Nat) (u:RUnit) (lo fo go:Option Addr) (lc fc gc cc:Nat) (bc oc:Nat) (i:Nat) (hn:Nat) (l' h':Int) (so co' go':Option Addr) (sc cc' gc':Nat) (w:World) (hu:UBox w B u lo fo go (some ⟨bc,oc,none⟩) lc fc gc cc) (hcode:SlAt w 10 (InsR w) (some ⟨bc,oc,none⟩) u.code) (hl:u.code.length<=9223372036854775807) (hi:i<u.code.length)
  (x:RIns) (hx:IBox w bc (oc+i*10) x so co' go' sc cc' gc') (hh:hn<1000):
  Calls Tryz.prog 44 #[.pointer (some ⟨B,0,none⟩),.int .i64 i,.agg #[.int .i64 hn,.int .i64 l',.int .i64 h']] w fun e w'=>e= .returned (.bool (targetsB u.code i x hn))/\Below w.heap.size w w':=by
 by_cases hop:x.op=39∨x.op=40
 ·exact targets_jump B u lo fo go lc fc gc cc bc oc i hn l' h' so co' go' sc cc' gc' w hu hcode hl hi x hx hop hn
 ·exact targets_rest B u lo fo go lc fc gc cc bc oc i hn l' h' so co' go' sc cc' gc' w hu hl hi x hx hop hh
open Go.RowKit Go.Shelf
attribute [local go_sem] Oper.semAt_some
def KpT (n Bp:Nat) (A B:World):Prop:=Below n A B/\ ∀v,Boxed A Bp 95 v->Boxed B Bp 95 v
theorem KpT.refl (n Bp:Nat) (A:World):KpT n Bp A A:=⟨Below.refl _ _,fun _ h=>h⟩
theorem KpT.trans {n Bp:Nat} {A B C:World} (h:KpT n Bp A B) (k:KpT n Bp B C):KpT n Bp A C:=⟨h.1.trans k.1,fun v x=>k.2 v (h.2 v x)⟩
structure TgAt (w0:World) (W:World) (Bp b o:Nat) (x:RIns) (co:Option Addr) (cc:Nat):Prop where
 bl:Below w0.heap.size w0 W
 bp:Boxed W Bp 95 (.pointer (some ⟨b,o,none⟩))
 lt:b<w0.heap.size
 c0:w0.cell? ⟨b,o,none⟩=some (.int .i64 x.op)
 c4:w0.cell? ⟨b,o+4,none⟩=some (.int .i64 x.to)
 c8:w0.cell? ⟨b,o+8,none⟩=some (.slice co x.cases.length cc)
 cases:SlAt w0 2 CaseR co x.cases
theorem TgAt.keep {w0 W W':World} {Bp b o:Nat} {x:RIns} {co:Option Addr} {cc:Nat} (h:TgAt w0 W Bp b o x co cc) (k:KpT w0.heap.size Bp W W'):TgAt w0 W' Bp b o x co cc:=
 ⟨h.bl.trans k.1,k.2 _ h.bp,h.lt,h.c0,h.c4,h.c8,h.cases⟩
theorem TgAt.cells {w0 W:World} {Bp b o:Nat} {x:RIns} {co:Option Addr} {cc:Nat} (h:TgAt w0 W Bp b o x co cc):W.cell? ⟨Bp,0,none⟩=some (.pointer (some ⟨b,o,none⟩))/\W.cell? ⟨b,o,none⟩=some (.int .i64 x.op)/\W.cell? ⟨b,o+4,none⟩=some (.int .i64 x.to)/\W.cell? ⟨b,o+8,none⟩=some (.slice co x.cases.length cc):=
 ⟨h.bp.cell,(h.bl.cell (p:=⟨b,o,none⟩) h.lt).trans h.c0,(h.bl.cell (p:=⟨b,o+4,none⟩) h.lt).trans h.c4,(h.bl.cell (p:=⟨b,o+8,none⟩) h.lt).trans h.c8⟩
theorem undef_bool {b:Bool} (h:some undef=some (Value.bool b)):False:=by unfold undef at h;cases h
def TgPost (i:Nat) (x:RIns) (J Jx:List Int->World->Prop) (e:Ending) (W':World):Prop:=
 (∃v,e= .returned v)/\((∃ys,ys=targetsV i x/\J ys W')∨(∃pre,True/\Jx pre W'))
theorem vtargets_in (F:Fence) (n:Nat) (hF:F.fn 161) (hro:F.round=none) (hn:1<=n) (l Bp Bi b o i:Nat) (x:RIns) (co:Option Addr) (cc:Nat) (w0:World) (hcl:x.cases.length<=1000) (hi:i<=1000000)
  (J Jx:List Int->World->Prop) (hJ: ∀s A o,J s A->J s (A.alloc o))
  (hY: ∀pre y W,J pre W->pre.length<1100->YieldAt F (n-1) Tryz.prog l #[.int .i64 y] W fun e W'=>(e= .returned (.bool true)/\J (pre++ [y]) W'/\KpT w0.heap.size Bp W W')∨(e= .returned (.bool false)/\Jx (pre++ [y]) W'))
  (W:World) (ht:TgAt w0 W Bp b o x co cc) (hbi:W.cell? ⟨Bi,0,none⟩=some (.int .i64 i)) (h0:J [] W):
  CallsIn F n Tryz.prog 161 #[.func (.yield l) #[] #[],.pointer (some ⟨Bp,0,none⟩),.pointer (some ⟨Bi,0,none⟩)] W (TgPost i x J Jx):=by
 obtain⟨a0,a1,a2,a3⟩:=ht.cells
 have HT:=Lib.hid ht
 have HTG:Hid (targetsV i x=(if followsV x.op=true then [(i:Int)+1]else [])++((if toB x.op=true then [x.to]else [])++(if x.op=12 then x.cases.map RCase.to else []))):=Lib.hid rfl
 have HL:=Lib.hid hcl
 clear ht hcl
 obtain⟨op,hop⟩: ∃op,op=x.op:=⟨_,rfl⟩
 rw [<-hop]at HTG a1
 have HOP:=Lib.hid hop
 clear hop
 obtain⟨jt,hto⟩: ∃jt,jt=x.to:=⟨_,rfl⟩
 rw [<-hto]at HTG a2
 have HTO:=Lib.hid hto
 clear hto
 refine callsIn_of_wp Tryz.func161 rfl hF ?_ hro
 simp only [Tryz.ntmps161,List.size_toArray,List.length_cons,List.length_nil,Nat.reduceAdd,Nat.reduceSub,Array.replicate_succ,Array.replicate_zero,List.push_toArray,List.append_toArray,List.nil_append,List.cons_append]
 by_cases hA:op=17∨op=19∨op=21∨op=23∨op=26∨op=27
 ·rcases hA with rfl|rfl|rfl|rfl|rfl|rfl
  all_goals
   as_aux_lemma=>
   gi_wp2
   refine⟨fun _ h=>(by cases h),?_⟩;gi_wp2
   refine bodyPost_ret (results_none rfl _ _ _) rfl ?_
   exact⟨⟨_,rfl⟩,.inl ⟨_,HTG.out.symm,h0⟩⟩
 ·by_cases hB:op=8∨op=39
  ·obtain⟨fn,tmps,assign,body,hy,hR⟩:=hY [] jt W h0 (by decide)
   rcases hB with rfl|rfl
   all_goals
    as_aux_lemma=>
    clear hA
    gi_wp2
    refine⟨fun _ h=>(by cases h),?_⟩;gi_wp2
    refine hR.mono ?_
    rintro e W3 (⟨rfl,hJ3,hk3⟩|⟨rfl,hJx3⟩)
    ·obtain⟨d0,d1,d2,d3⟩:=(HT.out.keep hk3).cells
     rw [<-HOP.out]at d1
     gi_wp2
     refine bodyPost_ret (results_none rfl _ _ _) rfl ?_
     exact⟨⟨_,rfl⟩,.inl ⟨_,HTG.out.symm,hJ3⟩⟩
    ·gi_wp2
     refine bodyPost_ret (results_none rfl _ _ _) rfl ?_
     exact⟨⟨_,rfl⟩,.inr ⟨_,trivial,hJx3⟩⟩
  ·by_cases hD:op=12
   ·subst hD
    as_aux_lemma=>
    obtain⟨fn,tmps,assign,body,hy,hR⟩:=hY [] jt W h0 (by decide)
    clear hA hB
    gi_wp2
    refine⟨fun _ h=>(by cases h),?_⟩;gi_wp2
    refine hR.mono ?_
    rintro e W3 (⟨rfl,hJ3,hk3⟩|⟨rfl,hJx3⟩)
    ·obtain⟨d0,d1,d2,d3⟩:=(HT.out.keep hk3).cells
     rw [<-HOP.out]at d1
     have HT3:=Lib.hid (HT.out.keep hk3)
     have hlen:=HL.out
     have HJ3:=Lib.hid hJ3
     clear hy hR hk3 hJ3 a0 a1 a2 a3 hbi h0
     obtain⟨m,hm⟩: ∃m,m=x.cases.length:=⟨_,rfl⟩
     rw [<-hm]at d3 hlen
     have HM:=Lib.hid hm
     clear hm
     gi_wp2
     gi_loopw [67] (fun kv wr=> ∃k:Nat,k<=m/\kv= .int .i64 k/\Hid (J (jt::(x.cases.take k).map RCase.to) wr)/\Hid (TgAt w0 wr Bp b o x co cc)) (fun kv _=>m-(intOf kv).toNat)
     case atStart=>exact⟨0,Nat.zero_le _,rfl,HJ3,HT3⟩
     case round=>
      obtain⟨k,hk,rfl,HJk,HTk⟩:=hrel
      rename World=>wr
      by_cases hlt:k<m
      ·have hkx:k<x.cases.length:=by rw [<-HM.out];exact hlt
       obtain⟨cb,cf,hco,hcb,q0,q1,r0,r1⟩:=(HTk.out.cases.mono HTk.out.bl (fun _ _ h=>h)).case hkx
       subst hco
       obtain⟨lv,hlv⟩: ∃lv,lv=x.cases[k].lit:=⟨_,rfl⟩
       obtain⟨tv,htv⟩: ∃tv,tv=x.cases[k].to:=⟨_,rfl⟩
       rw [<-hlv]at q0
       rw [<-htv]at q1
       have hal:Below w0.heap.size wr (wr.alloc (.cells #[.int .i64 lv,.int .i64 tv] 111)):=(Below.refl _ _).alloc HTk.out.bl.size _
       have hJa:J (jt::(x.cases.take k).map RCase.to) (wr.alloc (.cells #[.int .i64 lv,.int .i64 tv] 111)):=hJ _ _ _ HJk.out
       have HTA:Hid (TgAt w0 (wr.alloc (.cells #[.int .i64 lv,.int .i64 tv] 111)) Bp b o x (some ⟨cb,cf,none⟩) cc):=Lib.hid (HTk.out.keep ⟨hal,fun v h=>h.alloc _⟩)
       obtain⟨fn,tmps,assign,body,hy,hR⟩:=hY _ tv _ hJa (by rw [List.length_cons,List.length_map,List.length_take];omega)
       have hI0:(0:Int)<=(k:Int):=by omega
       have hI1:(k:Int)<(m:Int):=by omega
       have HAL:=Lib.hid hal
       have HLV:=Lib.hid hlv;have HTV:=Lib.hid htv
       clear hal hJa hlv htv r0 r1 hcb
       gi_wp2
       refine hR.mono ?_
       rintro e W5 (⟨rfl,hJ5,hk5⟩|⟨rfl,hJx5⟩)
       ·have HJ5:=Lib.hid hJ5
        have HT5:=Lib.hid (HTA.out.keep hk5)
        clear hJ5 hk5 hR hy
        gi_wp2
        refine⟨⟨k+1,by omega,by go_num,?_,HT5⟩,by simp [intOf];omega⟩
        refine Lib.hid ?_
        rw [List.take_succ_eq_append_getElem hkx,List.map_append,List.map_singleton,<-HTV.out]
        exact HJ5.out
       ·gi_wp2
        refine bodyPost_ret (results_none rfl _ _ _) rfl ?_
        exact⟨⟨_,rfl⟩,.inr ⟨_,trivial,hJx5⟩⟩
      ·obtain rfl:k=m:=by omega
       gi_wp2
       go_end0
       refine⟨⟨_,rfl⟩,.inl ⟨_,HTG.out.symm,?_⟩⟩
       have:=HJk.out
       rw [HM.out,List.take_length]at this
       exact this
    ·gi_wp2
     refine bodyPost_ret (results_none rfl _ _ _) rfl ?_
     exact⟨⟨_,rfl⟩,.inr ⟨_,trivial,hJx3⟩⟩
   ·have hcat:followsV op=true:=by
     unfold followsV leavesV
     simp;omega
    obtain⟨fn,tmps,assign,body,hy,hR⟩:=hY [] ((i:Int)+1) W h0 (by decide)
    by_cases hC:op=9∨op=10∨op=11∨op=13∨op=30∨op=31∨op=32∨op=33∨op=34∨op=37∨op=40
    ·have HG:Hid (targetsV i x= [(i:Int)+1,jt]):=Lib.hid (by
      rw [HTG.out,if_pos hcat,if_pos (by unfold toB;rcases hC with h|h|h|h|h|h|h|h|h|h|h<;>rw [h]<;>decide),if_neg hD];rfl)
     clear HTG hcat hA hB hD
     rcases hC with rfl|rfl|rfl|rfl|rfl|rfl|rfl|rfl|rfl|rfl|rfl
     all_goals
      as_aux_lemma=>
      gi_wp2
      refine hR.mono ?_
      rintro e W3 (⟨rfl,hJ3,hk3⟩|⟨rfl,hJx3⟩)
      ·have ht3:=HT.out.keep hk3
       obtain⟨d0,d1,d2,d3⟩:=ht3.cells
       rw [<-HTO.out]at d2
       have HT3:=Lib.hid ht3
       clear hy hR hk3 ht3 a0 a1 a2 a3 h0 d1 d3
       obtain⟨fn,tmps,assign,body,hy,hR⟩:=hY _ jt W3 hJ3 (by simp)
       gi_wp2
       refine hR.mono ?_
       rintro e W5 (⟨rfl,hJ5,hk5⟩|⟨rfl,hJx5⟩)
       ·obtain⟨e0,e1,e2,e3⟩:=(HT3.out.keep hk5).cells
        rw [<-HOP.out]at e1
        gi_wp2
        refine bodyPost_ret (results_none rfl _ _ _) rfl ?_
        exact⟨⟨_,rfl⟩,.inl ⟨_,HG.out.symm,hJ5⟩⟩
       ·gi_wp2
        refine bodyPost_ret (results_none rfl _ _ _) rfl ?_
        exact⟨⟨_,rfl⟩,.inr ⟨_,trivial,hJx5⟩⟩
      ·gi_wp2
       any_goals (exfalso;exact undef_bool (by assumption))
       refine⟨fun _ h=>(by cases h),?_⟩;gi_wp2
       refine bodyPost_ret (results_none rfl _ _ _) rfl ?_
       exact⟨⟨_,rfl⟩,.inr ⟨_,trivial,hJx3⟩⟩
    ·have hto:toB op=false:=by
      unfold toB
      simp;omega
     have HG:Hid (targetsV i x= [(i:Int)+1]):=Lib.hid (by rw [HTG.out,if_pos hcat,if_neg (by rw [hto];decide),if_neg hD];rfl)
     obtain⟨t1,t2,t3,t4,t5,t6,t7,t8,t9,t10,t11,t12,t13,t14,t15,t16,t17,t18,t19,t20⟩:(op==17)=false/\(op==19)=false/\(op==21)=false/\(op==23)=false/\(op==26)=false/\(op==27)=false/\(op==8)=false/\(op==39)=false/\(op==12)=false/\(op==9)=false/\(op==10)=false/\(op==11)=false/\(op==13)=false/\(op==30)=false/\(op==31)=false/\(op==32)=false/\(op==33)=false/\(op==34)=false/\(op==37)=false/\(op==40)=false:=by
      simp only [beq_eq_false_iff_ne];omega
     have t21 : (op != 12) = true := by simpa using hD
     clear HTG hcat hto hA hB hC hD
     gi_wp2
     refine hR.mono ?_
     rintro e W3 (⟨rfl,hJ3,hk3⟩|⟨rfl,hJx3⟩)
     ·obtain⟨d0,d1,d2,d3⟩:=(HT.out.keep hk3).cells
      rw [<-HOP.out]at d1
      gi_wp2
      refine⟨fun _ h=>(by cases h),?_⟩;gi_wp2
      refine bodyPost_ret (results_none rfl _ _ _) rfl ?_
      exact⟨⟨_,rfl⟩,.inl ⟨_,HG.out.symm,hJ3⟩⟩
     ·gi_wp2
      any_goals (exfalso;exact undef_bool (by assumption))
      refine⟨fun _ h=>(by cases h),?_⟩;gi_wp2
      refine bodyPost_ret (results_none rfl _ _ _) rfl ?_
      exact⟨⟨_,rfl⟩,.inr ⟨_,trivial,hJx3⟩⟩
open Go.RowKit Go.Shelf
attribute [local go_sem] Oper.semAt_some
theorem vtgmake_in (F:Fence) (n:Nat) (hF:F.fn 139) (hro:F.round=none) (b o i:Nat) (w:World):
  CallsIn F n Tryz.prog 139 #[.pointer (some ⟨b,o,none⟩),.int .i64 i] w fun e w'=>e= .returned (.func (.func 161) #[] #[.pointer (some ⟨w.heap.size,0,none⟩),.pointer (some ⟨w.heap.size+1,0,none⟩)])/\w'=(w.alloc (.cells #[.pointer (some ⟨b,o,none⟩)] 95)).alloc (.cells #[.int .i64 i] 3):=by
 refine callsIn_of_wp Tryz.func139 rfl hF ?_ hro
 simp only [Tryz.ntmps139,List.size_toArray,List.length_cons,List.length_nil,Nat.reduceAdd,Nat.reduceSub,Array.replicate_succ,Array.replicate_zero,List.push_toArray,List.append_toArray,List.nil_append,List.cons_append]
 gi_wp2
 go_ret
 exact⟨rfl,rfl⟩
theorem vtargets_stops (F:Fence) (n:Nat) (hF:F.fn 161) (hro:F.round=none) (hn:1<=n) (Bp Bi b o i:Nat) (x:RIns) (co:Option Addr) (cc:Nat) (w0 w:World) (hcl:x.cases.length<=1000) (hi:i<=1000000)
  (ht:TgAt w0 w Bp b o x co cc) (hbi:Boxed w Bi 3 (.int .i64 i)) (h0:w0.heap.size<=w.heap.size):
  SeqStopsK F n Tryz.prog 161 #[.pointer (some ⟨Bp,0,none⟩),.pointer (some ⟨Bi,0,none⟩)] (fun y:Int=>#[.int .i64 y]) (KpT w0.heap.size Bp) (fun ys=>ys=targetsV i x) (fun _=>True) 1100 w:=fun l J Jx W hW hJ hJx hY hj0=>by
 have hk:KpT w0.heap.size Bp w W:=⟨hW.mono h0,fun v hv=>(hW.block Bp hv.lt).trans hv⟩
 exact vtargets_in F n hF hro hn l Bp Bi b o i x co cc w0 hcl hi J Jx (fun s A o' h=>hJ s A _ none h (World.grownBy_alloc A o' none) (fun r e=>by cases e)) hY W (ht.keep hk) (show Boxed W Bi 3 (.int .i64 i)from(hW.block Bi hbi.lt).trans hbi).cell hj0
theorem IntsAt.putObj {w:World} {ao:Option Addr} {l:List Int} {D:Nat} {ds:Option (List Deferred)} {o':Obj} (h:IntsAt w ao l) (hD:w.heap[D]?=some (.deferred ds)):IntsAt (w.putObj D o') ao l:=
 h.imp id fun⟨b,off,cs,fr,e,hb,hr⟩=>⟨b,off,cs,fr,e,(World.putObj_heap_other (fun h=>by subst h;rw [hD]at hb;cases hb)).trans hb,hr⟩
def inR (m:Nat) (l:List Int):List Int:=l.filter fun k=>decide (0<=k)&&decide (k<m)
theorem inR_hit (m:Nat) (l:List Int) {y:Int} (h0:0<=y) (h1:y<m):inR m (l++ [y])=inR m l++ [y]:=by unfold inR;simp [h0,h1]
theorem inR_miss (m:Nat) (l:List Int) {y:Int} (h: ¬(0<=y/\y<m)):inR m (l++ [y])=inR m l:=by
 unfold inR
 rw [List.filter_append,List.filter_cons_of_neg (by simpa using h)]
 simp
theorem mem_compactUpTo (d:Array Int): ∀(m:Nat) (k:Int),k∈Lib.compactUpTo d m↔ ∃j,j<m/\d[j]! =k
 |0,k=>by simp [Lib.compactUpTo]
 |m+1,k=>by
  rw [Lib.compactUpTo_succ,List.mem_append,mem_compactUpTo d m k]
  constructor
  ·rintro(⟨j,h1,h2⟩|h)
   ·exact⟨j,by omega,h2⟩
   ·split at h
    ·exact⟨m,Nat.lt_succ_self m,(List.mem_singleton.1 h).symm⟩
    ·cases h
  ·rintro⟨j,h1,h2⟩
   by_cases hj:j<m
   ·exact .inl ⟨j,hj,h2⟩
   ·obtain rfl:j=m:=by omega
    by_cases hk:Lib.keeps d j=true
    ·rw [if_pos hk];exact .inr (List.mem_singleton.2 h2.symm)
    ·refine .inl ⟨j-1,?_,?_⟩
     ·have:j≠0:=fun e=>by subst e;exact hk (by simp [Lib.keeps])
      omega
     ·have:d[j]! =d[j-1]!:=Classical.byContradiction fun hn=>hk (Lib.keeps_pos hn)
      rw [<-this,h2]
theorem mem_compact (zs:List Int) (k:Int):k∈Lib.compact zs↔k∈zs:=by
 unfold Lib.compact
 rw [mem_compactUpTo]
 constructor
 ·rintro⟨j,h1,h2⟩
  rw [<-h2]
  simp [h1]
 ·intro h
  obtain⟨j,hj,rfl⟩:=List.getElem_of_mem h
  exact⟨j,hj,by simp [hj]⟩
theorem grow_none (w:World):Sort.grow w #[]=w:=by cases w;simp [Sort.grow]
theorem ints_compact {w:World} {g q:Nat} {cur:Array Value} {fr:Nat × Nat} {zs L:List Int} (hb:w.heap[g]?=some (.cells cur 3 fr)) (hl:L.length=zs.length) (h:zs.length<=cur.size) {r:List Int} (hr:r.length<=L.length) (he: ∀j (hj:j<r.length) (hj':j<L.length),L[j]=r[j]):
  IntsAt (Sort.putRow (Value.int .i64) (Sort.ahead w q) g 0 L.toArray) (some ⟨g,0,none⟩) r:=by
 have h1:=heap_sortedI (n:=q) (os:=#[]) L.toArray hb
 rw [grow_none]at h1
 refine .inr ⟨g,0,_,fr,rfl,h1,fun j hj=>?_⟩
 have h2:=take_putCellsI cur L (by omega)
 have h3:((Sort.putCells (Value.int .i64) 0 L.toArray cur).toList.take L.length)[j]?=(L.map (Value.int .i64))[j]?:=by rw [h2]
 rw [List.getElem?_take_of_lt (by omega),Array.getElem?_toList,List.getElem?_map,List.getElem?_eq_getElem (show j<L.length by omega)]at h3
 rw [Nat.zero_add,h3]
 simp only [Option.map_some]
 rw [he j hj (by omega)]
theorem vnext_any (cb cf m cap i:Nat) (x:RIns) (so co go:Option Addr) (sc cc gc:Nat) (w:World) (hi:IBox w cb (cf+i*10) x so co go sc cc gc) (him:i<m) (hm:m<=1000000) (hcl:x.cases.length<=1000):
  Calls Tryz.prog 99 #[.slice (some ⟨cb,cf,none⟩) m cap,.int .i64 i] w fun e w'=>(∃ks ao c,e= .returned (.slice ao ks.length c)/\IntsAt w' ao ks/\SuccOk m i x ks/\ks.length<=1100)/\Below w.heap.size w w':=by
 obtain⟨i0,hinf,hz0,hz1,hz2⟩:=info_parts infoInt
 have hI0:(0:Int)<=(i:Int):=by omega
 have hI1:(i:Int)<(m:Int):=by omega
 have t0:decide ((i:Int)<0)=false:=decide_eq_false (by omega)
 have t1:decide (m<=i)=false:=decide_eq_false (by omega)
 have HI:=Lib.hid hi
 clear hi
 have bL0:=Boxed.new w 25 (.slice (some ⟨cb,cf,none⟩) m cap)
 have bO0:=Boxed.new (w.alloc (.cells #[.slice (some ⟨cb,cf,none⟩) m cap] 25)) 38 (.slice none 0 0)
 have bP0:=Boxed.new ((w.alloc (.cells #[.slice (some ⟨cb,cf,none⟩) m cap] 25)).alloc (.cells #[.slice none 0 0] 38)) 95 (.pointer (some ⟨cb,cf+i*10,none⟩))
 have bI0:=Boxed.new (((w.alloc (.cells #[.slice (some ⟨cb,cf,none⟩) m cap] 25)).alloc (.cells #[.slice none 0 0] 38)).alloc (.cells #[.pointer (some ⟨cb,cf+i*10,none⟩)] 95)) 3 (.int .i64 i)
 have hB0:Below w.heap.size w ((((w.alloc (.cells #[.slice (some ⟨cb,cf,none⟩) m cap] 25)).alloc (.cells #[.slice none 0 0] 38)).alloc (.cells #[.pointer (some ⟨cb,cf+i*10,none⟩)] 95)).alloc (.cells #[.int .i64 i] 3)):=
  ((((Below.refl _ w).alloc (Nat.le_refl _) _).alloc (by simp) _).alloc (by simp;omega) _).alloc (by simp;omega) _
 have bL:=((bL0.alloc (.cells #[.slice none 0 0] 38)).alloc (.cells #[.pointer (some ⟨cb,cf+i*10,none⟩)] 95)).alloc (.cells #[.int .i64 i] 3)
 have bO:=(bO0.alloc (.cells #[.pointer (some ⟨cb,cf+i*10,none⟩)] 95)).alloc (.cells #[.int .i64 i] 3)
 have bP:=bP0.alloc (.cells #[.int .i64 i] 3)
 clear bL0 bO0 bP0
 simp only [World.size_alloc]at bO bP bI0
 have HBL:=Lib.hid bL;have HBO:=Lib.hid bO;have HBP:=Lib.hid bP;have HBI:=Lib.hid bI0;have HB0:=Lib.hid hB0
 clear bL bO bP bI0 hB0
 refine(callsIn_wide (n:=6)).1 ?_
 refine callsIn_of_wp_marks Tryz.func99 rfl trivial ?_ (by rfl)
 simp only [Tryz.ntmps99,List.size_toArray,List.length_cons,List.length_nil,Nat.reduceAdd,Nat.reduceSub,Array.replicate_succ,Array.replicate_zero,List.push_toArray,List.append_toArray,List.nil_append,List.cons_append]
 gi_wp2_with (refine⟨trivial,?_⟩;gi_at_call 139;refine(vtgmake_in Fence.wide 5 trivial rfl _ _ _ _).mono ?_;rintro e w' ⟨rfl,rfl⟩)
 generalize(((w.alloc (.cells #[.slice (some ⟨cb,cf,none⟩) m cap] 25)).alloc (.cells #[.slice none 0 0] 38)).alloc (.cells #[.pointer (some ⟨cb,cf+i*10,none⟩)] 95)).alloc (.cells #[.int .i64 i] 3)=W0 at *
 have hsz:w.heap.size<=W0.heap.size:=HB0.out.size
 have hTg:TgAt w W0 (w.heap.size+1+1) cb (cf+i*10) x co cc:=⟨HB0.out,HBP.out,HI.out.lt,HI.out.c0,HI.out.c4,HI.out.c8,HI.out.cases⟩
 have hIO:OwnFrom W0.heap.size (fun(pre:List Int) W=>((∃v,Boxed W (w.heap.size+1) 38 v/\W.ownsRow w.heap.size 3 1 v (inR m pre).length ((inR m pre).map (Value.int .i64))/\True)/\Boxed W w.heap.size 25 (.slice (some ⟨cb,cf,none⟩) m cap))/\Below w.heap.size w W):=
  OwnFrom.and (OwnFrom.and (Own.from (holdsRow_own w.heap.size (w.heap.size+1) 38 3 1 (fun pre=>(inR m pre).length) (fun pre=>(inR m pre).map (Value.int .i64)) (fun _ _=>True)) _) (Own.from (boxed_own w.heap.size 25 (fun _=>.slice (some ⟨cb,cf,none⟩) m cap)) _)) (ownFrom_below (Nat.le_refl _) hsz)
 have hKb: ∀(W:World) (l:Nat) (o o':Obj),W0.heap.size<=l->W.heap[l]?=some o->o.isCells=false->o.isWalk=false->KpT w.heap.size (w.heap.size+1+1) W (W.putObj l o'):=fun W l o o' hl h hc hk=>
  ⟨belowK_b (w:=W0) hsz W l o o' hl h hc hk,fun v hv=>(World.putObj_heap_other (fun e=>by
   rw [<-e]at h
   rw [show W.heap[w.heap.size+1+1]?=_ from hv]at h
   injection h with h
   rw [<-h]at hc;cases hc)).trans hv⟩
 have htl:(targetsV i x).length<=1002:=by
  unfold targetsV
  rw [List.length_append,List.length_append]
  have h1:(if followsV x.op=true then [(i:Int)+1]else []).length<=1:=by split<;>simp
  have h2:(if toB x.op=true then [x.to]else []).length<=1:=by split<;>simp
  have h3:(if x.op=12 then x.cases.map RCase.to else []).length<=1000:=by split<;>simp;omega
  omega
 have HTL:=Lib.hid htl
 clear htl t0 t1
 refine wpIn_rangeFunc_ownG (w0:=W0) (F:=Fence.wide) rfl (by decide) (gf:=161) (lb:=#[.pointer (some ⟨w.heap.size+1+1,0,none⟩),.pointer (some ⟨w.heap.size+1+1+1,0,none⟩)]) rfl trivial (enters_of Tryz.func161 (by kernel_rfl) rfl)
  (vtargets_stops Fence.wide 5 trivial rfl (by decide) (w.heap.size+1+1) (w.heap.size+1+1+1) cb (cf+i*10) i x co cc w W0 hcl (by omega) hTg HBI.out hsz) (fun h k=>h.trans k) hKb (Below.refl _ _) (fun _=>rfl)
  (fun pre W=>((∃v,Boxed W (w.heap.size+1) 38 v/\W.ownsRow w.heap.size 3 1 v (inR m pre).length ((inR m pre).map (Value.int .i64))/\True)/\Boxed W w.heap.size 25 (.slice (some ⟨cb,cf,none⟩) m cap))/\Below w.heap.size w W)
  (fun _ _ _=>False) hIO (fun _ _ _ _ _ hs _ _=>hs)
  ⟨⟨⟨_,HBO.out,World.ownsRow_nil _ _ _ _,trivial⟩,HBL.out⟩,HB0.out⟩
  (fun y=>{tmps:=#[.slice (some ⟨cb,cf,none⟩) m cap,.int .i64 i,.pointer (some ⟨w.heap.size,0,none⟩),undef,.slice none 0 0,.pointer (some ⟨w.heap.size+1,0,none⟩),.int .i64 y,.int .i64 i,.bool false,.bool false,.int .i64 i,.slice (some ⟨cb,cf,none⟩) m cap,.int .i64 m,.bool false,.bool false,
   .slice (some ⟨cb,cf,none⟩) m cap,.int .i64 i,.pointer (some ⟨cb,cf+i*10,none⟩),.int .i64 i,.func (.func 161) #[] #[.pointer (some ⟨w.heap.size+1+1,0,none⟩),.pointer (some ⟨w.heap.size+1+1+1,0,none⟩)],.int .i64 y,
   undef,undef,undef,undef,undef,undef,undef,undef,undef,undef,undef,undef,undef,undef,undef,undef],defers:=[]}) ?assign ?body ?done ?stop
 case assign=>
  intro l y W K hK
  gi_wp2
  exact hK
 case body=>
  rintro l pre y W ⟨⟨⟨v,hv,hrow,-⟩,hL⟩,hB⟩ hlt
  have hc:=hv.cell
  have hcL:=hL.cell
  have hpl:(inR m pre).length<=pre.length:=List.length_filter_le _ _
  clear hIO hKb hTg
  by_cases hy0:0<=y
  ·have u0:decide (0<=y)=true:=decide_eq_true hy0
   by_cases hy1:y<m
   ·have u1:decide (y<(m:Int))=true:=decide_eq_true hy1
    have hR:=inR_hit m pre hy0 hy1
    have HR:=Lib.hid hR
    clear hR
    gi_wp2_with (gi_at_builtin;refine wpListIn_append_own _ rfl _ _ 38 rfl w.heap.size 3 i0 (.int .i64 0) 1 8 Tryz.underlying38 hinf hz0 hz1 hz2 rfl (by decide) _ _ _ rfl (hrow.alloc _) ⟨W.heap.size,0,none⟩ 1 1 [.int .i64 y] rfl rfl (cell_one_new _ _ _) (by simp [Value.oneCell']) (by unfold maxLen;omega) (by omega) (by have:=hB.size;simp;omega) ?_;intro v' w1 hown' hgrow _;obtain⟨g',cap',rfl⟩:=ownsRow_succ hown';obtain⟨hv1,hv2,hr2,hk2,hb2⟩:=hv.appended (by decide) hrow hB.size (Nat.le_succ _) hown' hgrow;have hc1:=hv1.cell;have hf1:=hv1.frozen)
    have hkeep: ∀(B:Nat) (T:TypeId) (u:Value),T≠3->B≠w.heap.size+1->Boxed W B T u->Boxed (w1.setCell ⟨w.heap.size+1,0,none⟩ (.slice (some ⟨g',0,none⟩) ((inR m pre).length+1) cap')) B T u:=fun B T u hT hne hu=>
     ((hu.alloc _).kept hgrow (hu.not_row hT hrow)).kept (grownBy_setCell' w1 (w.heap.size+1) _) (fun e=>hne (by cases e;rfl))
    exact⟨hk2.from _,⟨hb2,fun u hu=>hkeep _ _ u (by decide) (by omega) hu⟩,⟨⟨_,hv2,by rw [HR.out,List.length_append,List.map_append];exact hr2,trivial⟩,hkeep _ _ _ (by decide) (by omega) hL⟩,hB.trans hb2⟩
   ·have u1:decide (y<(m:Int))=false:=decide_eq_false hy1
    have HR:=Lib.hid (inR_miss m pre (fun h=>hy1 h.2))
    gi_wp2
    exact⟨KeepsFrom.refl _ _,KpT.refl _ _ _,⟨⟨v,hv,by rw [HR.out];exact hrow⟩,hL⟩,hB⟩
  ·have u0:decide (0<=y)=false:=decide_eq_false hy0
   have HR:=Lib.hid (inR_miss m pre (fun h=>hy0 h.1))
   gi_wp2
   exact⟨KeepsFrom.refl _ _,KpT.refl _ _ _,⟨⟨v,hv,by rw [HR.out];exact hrow⟩,hL⟩,hB⟩
 case done=>
  rintro D ys W hD rfl ⟨⟨⟨v,hv,hrow,-⟩,hL⟩,hB⟩ hK
  have hsu: ∀zs:List Int,(∀k,k∈zs↔k∈inR m (targetsV i x))->SuccOk m i x zs:=fun zs h k=>by
   rw [h k];unfold inR
   rw [List.mem_filter,Bool.and_eq_true,decide_eq_true_eq,decide_eq_true_eq]
  have hsl:(inR m (targetsV i x)).length<=1002:=Nat.le_trans (List.length_filter_le _ _) HTL.out
  have HSU:=Lib.hid hsu
  generalize inR m (targetsV i x)=S at *
  have hc:=hv.cell
  have hnot:=hv.not_row (by decide) hrow
  rcases hrow.2 with⟨rfl,h0⟩|⟨g,cp,cur,rfl,hbase,hgb,h1,h2,h3,h4⟩
  ·obtain rfl:S= []:=List.eq_nil_of_length_eq_zero h0
   gi_wp2_with (first|(refine⟨trivial,?_⟩;gi_at_call 140;refine(callsIn_wide.2 (Tryz.slices_Sort_int_none _ _ _)).mono ?_;rintro e w1 ⟨rfl,rfl⟩)|(refine⟨trivial,?_⟩;gi_at_call 141;refine(callsIn_wide.2 (Tryz.slices_Compact_int_empty _ _ _)).mono ?_;rintro e w1 ⟨rfl,rfl⟩))
   refine⟨by simp,.inl ⟨_,_,rfl,run_takeDeferred hK,?_⟩⟩
   exact⟨_,results_tmp rfl _ _ _,⟨[],_,_,rfl,.inl rfl,HSU.out [] (fun k=>Iff.rfl),by decide⟩,hB.trans (belowK_b (w:=w) (Nat.le_refl _) _ D _ _ (by omega) hK rfl rfl)⟩
  ·have hgl:g<W.heap.size:=(Array.getElem?_eq_some_iff.1 hgb).1
   have hso:=Tryz.slices_Sort_int g 0 cp S W (holds_of_blockI hgb (by simpa using h4)) hgl (by omega)
   obtain⟨T,hT⟩: ∃T,T=S.mergeSort (fun x y=>decide (x<=y)):=⟨_,rfl⟩
   rw [<-hT]at hso
   have hTl:T.length=S.length:=by rw [hT,List.length_mergeSort]
   have hTm: ∀k,k∈T↔k∈S:=fun k=>by rw [hT];exact List.mem_mergeSort
   have hso2:Calls Tryz.prog 140 #[.slice (some ⟨g,0,none⟩) S.length cp] W fun e w1=>e= .returned (.tuple #[])/\ ∃cur1,w1.heap[g]?=some (.cells cur1 3 (0,0))/\cur1.toList.take T.length=T.map (Value.int .i64)/\cur1.size=cur.size/\W.grownBy w1 (some g):=
    hso.mono fun e w1 ⟨he,nn,os,hw⟩=>by
     subst hw
     exact⟨he,_,heap_sortedI _ hgb,take_putCellsI cur T (by rw [hTl];omega),by simp [Sort.putCells],grownBy_sortedI _⟩
   have HSO:=Lib.hid hso2;have HTm:=Lib.hid hTm;have HTl:=Lib.hid hTl
   clear hso hso2 hT hTm hTl
   gi_wp2_with (refine⟨trivial,?_⟩;gi_at_call 140;refine(callsIn_wide.2 HSO.out).mono ?_;rintro e W1 ⟨rfl,cur1,hrow1,h41,hcs,hgr⟩;have hc1:=(hv.kept hgr (fun e=>hnot (by rw [e];rfl))).cell)
   have hK1:W1.heap[D]?=some (.deferred (some [])):=(hgr.block D (Array.getElem?_eq_some_iff.1 hK).1 (fun e=>by
    have:g=D:=by simpa using e.symm
    rw [this,hK]at hgb;cases hgb)).trans hK
   have hB1:RowKit.Below w.heap.size w W1:=hB.grown hgr hB.size (fun j hj=>by cases hj;exact hbase)
   have hco:=Tryz.slices_Compact_int g 0 cp T W1 (holds_of_blockI hrow1 h41) (by rw [HTl.out];omega) (by rw [HTl.out];exact h1)
   rw [HTl.out]at hco
   have HCO:=Lib.hid hco
   have hgl1:=(Array.getElem?_eq_some_iff.1 hrow1).1
   clear hco hgr hgl
   gi_wp2_with (refine⟨trivial,?_⟩;gi_at_call 141;refine(callsIn_wide.2 HCO.out).mono ?_;rintro e w2 ⟨rfl,q,rfl⟩)
   have hcl2:(Lib.compact T).length<=T.length:=Lib.compact_length_le T
   have hLl:(Lib.compact T++List.replicate (S.length-(Lib.compact T).length) 0).length=T.length:=by
    have:=HTl.out
    rw [List.length_append,List.length_replicate];omega
   have hints:=ints_compact (q:=q) hrow1 hLl (by rw [hcs,HTl.out];omega) (r:=Lib.compact T) (by rw [hLl];exact hcl2) (fun j hj hj'=>by rw [List.getElem_append_left hj])
   have hgr2:=grownBy_sortedI (n:=q) (os:=#[]) (w:=W1) (g:=g) (Lib.compact T++List.replicate (S.length-(Lib.compact T).length) 0).toArray
   rw [grow_none]at hgr2
   have hK2:(Sort.putRow (Value.int .i64) (Sort.ahead W1 q) g 0 (Lib.compact T++List.replicate (S.length-(Lib.compact T).length) 0).toArray).heap[D]?=some (.deferred (some [])):=(hgr2.block D (Array.getElem?_eq_some_iff.1 hK1).1 (fun e=>by
    have:g=D:=by simpa using e.symm
    rw [this,hK1]at hrow1;cases hrow1)).trans hK1
   have hB2:RowKit.Below w.heap.size w (Sort.putRow (Value.int .i64) (Sort.ahead W1 q) g 0 (Lib.compact T++List.replicate (S.length-(Lib.compact T).length) 0).toArray):=hB1.grown hgr2 hB1.size (fun j hj=>by cases hj;exact hbase)
   refine⟨by simp,.inl ⟨_,_,rfl,run_takeDeferred hK2,?_⟩⟩
   have hbl:=belowK_b (w:=w) (Nat.le_refl _) _ D _ (.deferred none) (by omega) hK2 rfl rfl
   exact⟨_,results_tmp rfl _ _ _,⟨Lib.compact T,_,_,rfl,hints.putObj hK2,HSU.out _ (fun k=>(mem_compact T k).trans (HTm.out k)),by have:=HTl.out;omega⟩,hB2.trans hbl⟩
 case stop=>
  rintro D c pre W _ _ h _
  exact h.elim
end Go.Proofs.YtepjanajflkakaaGreatDoor
