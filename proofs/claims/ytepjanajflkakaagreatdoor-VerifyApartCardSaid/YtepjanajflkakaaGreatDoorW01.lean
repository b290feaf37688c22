import Derived.IntWalk
import Derived.Below
import Derived.Laws.Wrap64
import Derived.WalkKit
import Derived.ChangeArms
import Derived.DataReads
import Derived.Lib.Hide
import Derived.WalkSpells
import Derived.WalkLawsBesides
import Derived.Handy
import Derived.Deep.QuietTactic
import Derived.BigQuiet
import Derived.Laws.AppendOwn
import Derived.Laws.NewBlocks
import Derived.Laws.Tables
import Derived.Deep.AppendLies
import Derived.Deep.Draws
import Derived.Laws.CopyOwn
import Derived.Deep.RegionHeld3
import Derived.Deep.DeepCutAuto
import Derived.Shelf.Small.Bits
import Derived.Shelf.Small.Strs
import Derived.Shelf.Small.Wraps
import Derived.Shelf.Strconv.Itoa0
import Derived.Shelf.Strings.Search1
import Derived.Shelf.Strings.Search2
import Derived.Shelf.Strings.Search3
import Derived.Shelf.LaysM
import Derived.Shelf.Strings.Shaped
import Derived.Shelf.Sort.Plain
import Derived.Shelf.Strings.Fields
import Derived.Shelf.Strings.SplitShaped
import Derived.Shelf.Unicode.Latin
import Derived.Shelf.Unicode.Is16White
import Derived.Shelf.Unicode.IsSpaceAny
import Derived.Shelf.Unicode.Is16Any
import Derived.Shelf.Unicode.Is32Any
import Derived.Shelf.Unicode.ExclAny
import Derived.Shelf.Slices.Equal
import Derived.Ground.Names2Prog
import Derived.Shelf.Slices.Clone
import Derived.Shelf.Slices.CompactI
import Derived.Shelf.Slices.SearchI
import Derived.Shelf.Slices.Cells
import Derived.Shelf.Slices.In.SortNone
import Derived.Shelf.Slices.Empties2
import Derived.Ground.SlgnProg
import Derived.Shelf.SlicesE.Clone
import Derived.OrdersHeld
import Derived.Deep.RegionHeld
import Derived.KernelRfl
import Derived.Tactics
import Derived.Deep.CutBlock
import Derived.Laws.ResultCell
import Derived.Laws.Rows
import Derived.Maps.OwnOps
import Derived.Maps.OwnSet
import Derived.Maps.Views
import Derived.DeepKeys4
import Derived.WideKeyPair
import Derived.Deep.Upon
import Derived.Great.BuildSlice
import Derived.Orders
import Derived.Laws.RangeAny
import Derived.Laws.RangeString
import Derived.Deep.RegionWith
import Derived.RegionTactic
import Derived.BigRegion
import Derived.Laws.EntriesVeiled
import Derived.Lib.SmallJoins
import Derived.Laws.OwnMore
import Derived.Laws.MakeOwn
import Derived.RangeFuncBox
import Derived.RangeFuncLeaves
import Derived.Shelf.Abstract
import Derived.OwnWalkIn
import Derived.TacticsInMore
import Derived.LoopNIn
import Derived.LoopIn
import Derived.Maps.AppendAt
import Derived.RangeFuncNested
import Derived.Sort.OwnSortedInts
import Derived.StillTailTactics
import Derived.Deep.Cut
import Derived.Lib.LaidU8
import Derived.Stop.LaidErr
import Derived.Deep.DeepHandedRow
import Derived.Deep.DeepLaidRun
import Derived.Deep.DeepWitnessRowRef
import Derived.ProofKit
import Derived.OpenShut
import Derived.ShutString
import Derived.Test.YtepjanajflkakaaGreatDoorProg
namespace Go.Proofs.YtepjanajflkakaaGreatDoor
open Go.RowKit
set_option linter.unusedVariables false
set_option linter.unusedSimpArgs false
set_option maxRecDepth 100000
set_option maxHeartbeats 0
theorem zzK3{p0 p1 p2 G:Prop}(a0:p0)(a1:p1)(a2:p2)(h:Hid p0->Hid p1->Hid p2->G):G:=h a0 a1 a2
theorem zzK4{p0 p1 p2 p3 G:Prop}(a0:p0)(a1:p1)(a2:p2)(a3:p3)(h:Hid p0->Hid p1->Hid p2->Hid p3->G):G:=h a0 a1 a2 a3
theorem zzK5{p0 p1 p2 p3 p4 G:Prop}(a0:p0)(a1:p1)(a2:p2)(a3:p3)(a4:p4)(h:Hid p0->Hid p1->Hid p2->Hid p3->Hid p4->G):G:=h a0 a1 a2 a3 a4
theorem zzK6{p0 p1 p2 p3 p4 p5 G:Prop}(a0:p0)(a1:p1)(a2:p2)(a3:p3)(a4:p4)(a5:p5)(h:Hid p0->Hid p1->Hid p2->Hid p3->Hid p4->Hid p5->G):G:=h a0 a1 a2 a3 a4 a5
theorem zzK7{p0 p1 p2 p3 p4 p5 p6 G:Prop}(a0:p0)(a1:p1)(a2:p2)(a3:p3)(a4:p4)(a5:p5)(a6:p6)(h:Hid p0->Hid p1->Hid p2->Hid p3->Hid p4->Hid p5->Hid p6->G):G:=h a0 a1 a2 a3 a4 a5 a6
theorem zzK8{p0 p1 p2 p3 p4 p5 p6 p7 G:Prop}(a0:p0)(a1:p1)(a2:p2)(a3:p3)(a4:p4)(a5:p5)(a6:p6)(a7:p7)(h:Hid p0->Hid p1->Hid p2->Hid p3->Hid p4->Hid p5->Hid p6->Hid p7->G):G:=h a0 a1 a2 a3 a4 a5 a6 a7
theorem zzK9{p0 p1 p2 p3 p4 p5 p6 p7 p8 G:Prop}(a0:p0)(a1:p1)(a2:p2)(a3:p3)(a4:p4)(a5:p5)(a6:p6)(a7:p7)(a8:p8)(h:Hid p0->Hid p1->Hid p2->Hid p3->Hid p4->Hid p5->Hid p6->Hid p7->Hid p8->G):G:=h a0 a1 a2 a3 a4 a5 a6 a7 a8
theorem zzK11{p0 p1 p2 p3 p4 p5 p6 p7 p8 p9 p10 G:Prop}(a0:p0)(a1:p1)(a2:p2)(a3:p3)(a4:p4)(a5:p5)(a6:p6)(a7:p7)(a8:p8)(a9:p9)(a10:p10)(h:Hid p0->Hid p1->Hid p2->Hid p3->Hid p4->Hid p5->Hid p6->Hid p7->Hid p8->Hid p9->Hid p10->G):G:=h a0 a1 a2 a3 a4 a5 a6 a7 a8 a9 a10
abbrev zzA:=Option Addr
theorem zzE(w:World)(c:Obj):Below w.heap.size w (w.alloc c):=(Below.refl _ _).alloc (Nat.le_refl _) _
theorem zzV(n:Nat)(h:n<=9223372036854775807):IntKind.i64.wrap ((n:Int)-1)=(n:Int)-1:=by rw [IntKind.wrap_i64];omega
abbrev zzW:=@Nat.lt_of_lt_of_le
abbrev zzC:=@Nat.not_lt_zero
theorem zz1{P:Prop}(h:P:=by
 rw [h]at hk;exact absurd hk (zzC _)):P:=h
abbrev zzL:=@Nat.le_refl
theorem zzq0:type_of% @cell_of_row:=@cell_of_row
abbrev zzF:=@heap_alloc_new
theorem zzq16:type_of% @List.length_append.{0}:=@List.length_append
abbrev zzR:=@Below.refl
abbrev zzj:=@bodyPost_ret
abbrev zzZ:=@Nat.zero_le
abbrev zzS:=@heap_setCell_same
theorem zzq3:type_of% @heap_setCell_other:=@heap_setCell_other
abbrev zzH:=@Lib.hid
abbrev zzf:=@Option.some.inj
theorem zzq2:type_of% @frozen_of_row:=@frozen_of_row
abbrev zzY:=@Nat.le_trans
abbrev zzQ:=@List.eq_nil_of_length_eq_zero
theorem zz2{P:Prop}(h:P:=by
 go_wp2_with fail;go_roundw
 case rel=>exact⟨k+1,by omega,by go_num,HAC,HB4⟩
 case measure=>simp [intOf];omega):P:=h
abbrev zzM:=@List.getElem_mem
theorem zzq4:type_of% @List.getElem?_eq_getElem.{0}:=@List.getElem?_eq_getElem
abbrev zzb:=@Nat.le_of_lt
theorem zz5{P:Prop}(h:P:=by
 rintro e w' ⟨rfl,rfl⟩;exact⟨⟨none,0,rfl,.inl rfl⟩,zzR _ _⟩):P:=h
theorem zz3{P:Prop}(h:P:=by
 rintro e w' ⟨v,rfl,ho,-,hb⟩;obtain⟨ao',c',rfl,hs⟩:=zdm (R:=R) (l:=[]) ho (fun j hj=>absurd hj (zzC _));exact⟨⟨ao',c',rfl,hs⟩,hb⟩):P:=h
theorem zz4{P:Prop}(h:P:=by
 obtain⟨ao',c',rfl,hs⟩:=zdm ho hrow;exact⟨⟨ao',c',rfl,hs⟩,hbw⟩):P:=h
theorem zz6{P:Prop}(h:P:=by
 rintro e w' ⟨v,rfl,ho,-,hbw⟩
 have hrow: ∀j (h:j<l.length),∃cs:List Value,cs.length=2/\(∀i,i<2->vs[j*2+i]?=cs[i]?)/\R cs l[j]:=fun j hj=>by
  obtain⟨cs,k1,k2,k3⟩:=hr j hj;exact⟨cs,k1,fun i hi=>by rw [<-k2 i hi,<-e2 (j*2+i) (by omega),Nat.add_assoc],k3⟩
 obtain⟨ao',c',rfl,hs⟩:=zdm ho hrow;exact⟨⟨ao',c',rfl,hs⟩,hbw⟩):P:=h
theorem zz7{P:Prop}(h:P:=by
 rcases h with h|⟨b,arr,a,e,e1,hb1,hb2,hg,hv,hx⟩
 ·exact .inl h
 ·refine .inr ⟨b,arr,a,e,e1,hb1,hg,fun j hj=>absurd hj (zzC _),fun j hj=>?_⟩
  obtain⟨cs,k1,k2,k3⟩:=hx j hj;exact⟨cs,k1,k2,fun h=>absurd h (zzC _),fun _=>k3⟩):P:=h
theorem zz8{P:Prop}(h:P:=by
 rcases h with h|⟨g,arr,a,e,e1,hb1,hg,hv,hx⟩
 ·exact .inl h
 ·refine .inr ⟨g,arr,a,e,e1,hb1,zb hg,hg,hv,fun j hj=>?_⟩
  obtain⟨cs,k1,k2,k3,-⟩:=hx j hj;exact⟨cs,k1,k2,k3 hj⟩):P:=h
theorem zz11{P:Prop}(h:P:=by
 rw [zzq4 (by omega)]at this;have:=(Array.getElem?_eq_some_iff.1 this).1;omega):P:=h
theorem zz9{P:Prop}(h:P:=by
 by_cases d:j<k
 ·obtain⟨g1,g2,g3,g4,g5⟩:=hv j d
  simp only [d,if_true];refine⟨g1,g2,by rw [hsz];have:=hb.size;omega,g4,fun i hi=>?_⟩;rw [if_pos (by omega)];exact g5 i hi
 ·simp only [d,if_false]
  refine⟨hN,hb.size,by rw [hsz];exact zzL _,fun q hq=>.inl (by have:=zzf hq;omega),fun i hi=>?_⟩;by_cases d2:i<k
  ·rw [if_pos d2];exact(hv i d2).2.2.1
  ·omega):P:=h
theorem zz10{P:Prop}(h:P:=by
 have hj2:j<k:=by omega
 simp only [hj2,if_true];obtain⟨v1,v2,v3,v4,-⟩:=hv j hj2;exact(k3 hj2).kept (fun b b1 b2=>(hkk b (by rcases v4 g rfl with h|h<;>omega)).trans (hb.block b (by omega))) (zzL _) (zzL _)):P:=h
abbrev zzp:=@List.all_eq_true
theorem zzq6:type_of% @Bool.and_eq_true:=@Bool.and_eq_true
theorem zz12{P:Prop}(h:P:=by
 rcases Nat.lt_or_ge i listed.size with h'|h'
 ·simp [h']at h3 h4;rw [h4]at h3;cases h3
 ·simp [Array.getElem?_eq_none h']at h3):P:=h
theorem zzX0:type_of% (And.intro @Act.put.eq_1 (And.intro @List.setIfInBounds_toArray.{0} (And.intro @List.set_cons_zero.{0} (And.intro @List.set_cons_succ.{0} (And.intro @List.getElem_toArray.{0} (And.intro @List.getElem_cons_zero.{0} @List.getElem_cons_succ.{0})))))):=And.intro @Act.put.eq_1 (And.intro @List.setIfInBounds_toArray.{0} (And.intro @List.set_cons_zero.{0} (And.intro @List.set_cons_succ.{0} (And.intro @List.getElem_toArray.{0} (And.intro @List.getElem_cons_zero.{0} @List.getElem_cons_succ.{0})))))
abbrev zzD:=@decide_eq_false
abbrev zzT:=@decide_eq_true
theorem zz13{P:Prop}(h:P:=by
 by_cases h2:n<=b
 ·have E:=zzH (zeR h1 h2)
  have d1:decide (a<=n)=true:=zzT h1;have d2:decide (n<=b)=true:=zzT h2;go_in;go_wp2;go_ret;exact⟨zi E.out.symm,rfl⟩
 ·have E:=zzH (zdJ (n:=n) (a:=a) (b:=b) (fun h=>h2 h.2))
  have d1:decide (a<=n)=true:=zzT h1;have d2:decide (n<=b)=false:=zzD h2;go_in;go_wp2;go_ret;exact⟨zi E.out.symm,rfl⟩):P:=h
theorem zz14{P:Prop}(h:P:=by
 have E:=zzH (zdJ (n:=n) (a:=a) (b:=b) (fun h=>h1 h.1));have d1:decide (a<=n)=false:=zzD h1;go_in;go_wp2;go_ret;exact⟨zi E.out.symm,rfl⟩):P:=h
theorem zz15{P:Prop}(h:P:=by
 go_in;go_wp2_with (go_at_call 71;refine(zl _ _ _ _).mono ?_;rintro e w1 ⟨rfl,rfl⟩);go_ret;exact⟨zi E.out.symm,hbe⟩):P:=h
theorem zz16{P:Prop}(h:P:=by
 go_wp2;go_ret;exact⟨zi E.out.symm,hbe⟩):P:=h
abbrev zze:=@Calls.quiet_of_same
abbrev zzB:=@beq_eq_false_iff_ne
theorem zzq5:type_of% @IntKind.wrap_i64:=@IntKind.wrap_i64
theorem zz17{P:Prop}(h:P:=by
 go_in;go_wp2;refine zzj (zbj rfl _ _ _ w.heap.size _ _ _ _ rfl (zzF _ _) Tryz.underlying97 (by kernel_rfl)) rfl ?_;exact⟨rfl,zzE _ _⟩):P:=h
theorem zzc3{w:World}{B:Nat}{v0 v1 v2:Value}{l:List Value}{T:Nat}{o:Nat×Nat}(h:w.heap[B]?=some (.cells (v0::v1::v2::l).toArray T o)):w.cell? ⟨B,0,none⟩=some v0/\w.cell? ⟨B,1,none⟩=some v1/\w.cell? ⟨B,2,none⟩=some v2:=⟨zzq0 w B 0 _ _ _ h,zzq0 w B 1 _ _ _ h,zzq0 w B 2 _ _ _ h⟩
theorem zz18{P:Prop}(h:P:=by
 go_wp2_with fail;go_meet
 case rel=>exact⟨_,rfl,zzH (by rw [hq4];first|rfl|(simp;done)|(simp [bne];done)|(rw [Bool.eq_iff_iff];simp;done)|(rw [Bool.eq_iff_iff];simp;omega)),rfl⟩):P:=h
theorem zz19{P:Prop}(h:P:=by
 go_wp2;go_ret;exact⟨zi E.out.symm,hBW⟩):P:=h
theorem zzq1:type_of% @beq_eq_false_iff_ne.{0}:=@beq_eq_false_iff_ne
theorem zzq11:type_of% @Bool.true_and:=@Bool.true_and
abbrev zza:=@of_decide_eq_true
theorem zzq8:type_of% @Bool.false_or:=@Bool.false_or
theorem zz20{P:Prop}(h:P:=by
 go_wp2;go_ret;exact⟨rfl,rfl⟩):P:=h
theorem zz23{P:Prop}(h:P:=by
 rw [hnil]at hlt;exact absurd hlt (zzC _)):P:=h
theorem zz22{P:Prop}(h:P:=by
 go_wp2_with fail;go_roundw
 case rel=>exact⟨k+1,by omega,by go_num,HK7⟩
 case measure=>simp [intOf];omega):P:=h
theorem zz21{P:Prop}(h:P:=by
 have hk7:KeepR (a k0) (e k0) Wb w7:=by rw [hw7'];exact HK.out.trans (KeepR.setL _ _ HFB.out _ _ _)
 have HK7:=zzH hk7;clear hw7 hw7' hk7 x0 z0 x1 z1 HK HA HSZ;go_wp2_with fail;go_roundw
 case rel=>exact⟨k+1,by omega,by go_num,HK7⟩
 case measure=>simp [intOf];omega):P:=h
theorem zz28{P:Prop}(h:P:=by
 have q5:decide ((c:Int)<=57)=true:=by simp;omega
 have q6:((c:Int)==95)=false:=by simp;omega
 have q7:((c:Int)==64)=false:=by simp;omega
 have hok:Hid (zM 0 c=false):=zzH (by unfold zM;apply zzD;omega);have hok2:Hid (zM 0 s[0].toNat=false):=zzH (by rw [<-HR.out.1];exact hok.out);have HV:Hid (zy s=false):=zzH (HB.out hok2.out);clear HG HK HB HR hok hok2;go_wp2_with fail
 (try simp only [Exit.inBlock,Exit.then])
 go_ret;exact⟨zi HV.out.symm,zb1 _ _ _⟩):P:=h
theorem zz26{P:Prop}(h:P:=by
 have q3:decide ((c:Int)<=90)=true:=by simp;omega
 have q4:decide ((48:Int)<=(c:Int))=true:=by simp;omega
 have q5:decide ((c:Int)<=57)=false:=by simp;omega
 have q6:((c:Int)==95)=false:=by simp;omega
 have q7:((c:Int)==64)=false:=by simp;omega
 have hok:Hid (zM 0 c=false):=zzH (by unfold zM;apply zzD;omega);have hok2:Hid (zM 0 s[0].toNat=false):=zzH (by rw [<-HR.out.1];exact hok.out);have HV:Hid (zy s=false):=zzH (HB.out hok2.out);clear HG HK HB HR hok hok2;go_wp2_with fail
 (try simp only [Exit.inBlock,Exit.then])
 go_ret;exact⟨zi HV.out.symm,zb1 _ _ _⟩):P:=h
theorem zz29{P:Prop}(h:P:=by
 have hok2:Hid (zM 0 s[0].toNat=false):=zzH (by rw [<-HR.out.1];exact hok.out);have HV:Hid (zy s=false):=zzH (HB.out hok2.out);clear HG HK HB HR hok hok2;go_wp2_with fail
 (try simp only [Exit.inBlock,Exit.then])
 go_ret;exact⟨zi HV.out.symm,zb1 _ _ _⟩):P:=h
theorem zz25{P:Prop}(h:P:=by
 have q2:decide ((65:Int)<=(c:Int))=true:=by simp;omega
 have q3:decide ((c:Int)<=90)=false:=by simp;omega
 have q4:decide ((48:Int)<=(c:Int))=true:=by simp;omega
 have q5:decide ((c:Int)<=57)=false:=by simp;omega
 have q6:((c:Int)==95)=false:=by simp;omega
 have q7:((c:Int)==64)=false:=by simp;omega
 have hok:Hid (zM 0 c=false):=zzH (by unfold zM;apply zzD;omega);have hok2:Hid (zM 0 s[0].toNat=false):=zzH (by rw [<-HR.out.1];exact hok.out);have HV:Hid (zy s=false):=zzH (HB.out hok2.out);clear HG HK HB HR hok hok2;go_wp2_with fail
 (try simp only [Exit.inBlock,Exit.then])
 go_ret;exact⟨zi HV.out.symm,zb1 _ _ _⟩):P:=h
theorem zz108{P:Prop}(h:P:=by
 have q6:((c:Int)==95)=false:=by simp;omega
 have q7:((c:Int)==64)=false:=by simp;omega
 have q9:decide ((0:Int)<(pos:Int))=true:=by simp;omega
 have hok:Hid (zM pos c=false):=zzH (by unfold zM;apply zzD;omega);have hok2:Hid (zM pos s[pos].toNat=false):=zzH (by rw [<-HR.out.1];exact hok.out);have HV:Hid (zy s=false):=zzH (HB.out hok2.out);clear HG HK HB HR hok hok2;go_wp2_with fail
 (try simp only [Exit.inBlock,Exit.then])
 go_ret;exact⟨zi HV.out.symm,zb1 _ _ _⟩):P:=h
theorem zz27{P:Prop}(h:P:=by
 have q6:((c:Int)==95)=false:=by simp;omega
 have q7:((c:Int)==64)=false:=by simp;omega
 have q9:decide ((0:Int)<(pos:Int))=true:=by simp;omega
 have hok:Hid (zM pos c=true):=zzH (by unfold zM;apply zzT;omega);have hok2:Hid (zM pos s[pos].toNat=true):=zzH (by rw [<-HR.out.1];exact hok.out);obtain rfl:=HR.out.2 hok2.out;have HG2:=zzH (HK.out hok2.out);clear HG HK HB HR hok hok2;go_wp2_with fail;go_roundw
 case rel=>exact⟨_,by omega,rfl,HG2⟩
 case measure=>simp;omega):P:=h
theorem zz30{P:Prop}(h:P:=by
 have hok2:Hid (zM pos s[pos].toNat=true):=zzH (by rw [<-HR.out.1];exact hok.out);obtain rfl:=HR.out.2 hok2.out;have HG2:=zzH (HK.out hok2.out);clear HG HK HB HR hok hok2;go_wp2_with fail;go_roundw
 case rel=>exact⟨_,by omega,rfl,HG2⟩
 case measure=>simp;omega):P:=h
theorem zz24{P:Prop}(h:P:=by
 have q2:decide ((65:Int)<=(c:Int))=true:=by simp;omega
 have q3:decide ((c:Int)<=90)=false:=by simp;omega
 have q4:decide ((48:Int)<=(c:Int))=true:=by simp;omega
 have q5:decide ((c:Int)<=57)=false:=by simp;omega
 have q6:((c:Int)==95)=false:=by simp;omega
 have q7:((c:Int)==64)=false:=by simp;omega
 have q9:decide ((0:Int)<(pos:Int))=true:=by simp;omega
 have hok:Hid (zM pos c=false):=zzH (by unfold zM;apply zzD;omega);have hok2:Hid (zM pos s[pos].toNat=false):=zzH (by rw [<-HR.out.1];exact hok.out);have HV:Hid (zy s=false):=zzH (HB.out hok2.out);clear HG HK HB HR hok hok2;go_wp2_with fail
 (try simp only [Exit.inBlock,Exit.then])
 go_ret;exact⟨zi HV.out.symm,zb1 _ _ _⟩):P:=h
theorem zz110{P:Prop}(h:P:=by
 go_wp2_with fail
 (try simp only [Exit.inBlock,Exit.then])
 go_ret;exact⟨zi HV.out.symm,zb1 _ _ _⟩):P:=h
theorem zz31{P:Prop}(h:P:=by
 go_in;go_wp2_with (go_at_call 204;first|((with_reducible refine(h0 _).mono ?_);rintro e w1 ⟨rfl,rfl⟩)|((with_reducible refine(h1 _).mono ?_);rintro e w1 ⟨rfl,rfl⟩));exact zzj (v:=.tuple #[.agg #[.int .i64 k,.int .i64 0,.int .i64 0,.string ⟨#[]⟩,.string f,.int .i64 a,.slice so l c,.string y,.int .i64 z],.bool (false)]) (by simp [results,Tryz.results203,go_sem]) rfl ⟨rfl,zx _ _ _⟩):P:=h
theorem zz32{P:Prop}(h:P:=by
 obtain⟨q0,q1,q2,q3,q4,q5,q6,q7,q8,z0⟩:=zf r0';obtain⟨p0,p1,p2,p3,p4,p5,p6,p7,p8,z1⟩:=zf r1';go_wp2_with fail;refine zzj (zbj rfl _ _ _ (B+1) _ _ _ _ rfl (zdI _ _ _ _ _ _ _ _ _ r1') Tryz.underlying116 (by kernel_rfl)) rfl ?_;exact⟨rfl,by rw [HBE.out];exact zcC (Nat.le_succ _) hB' _ _ _ _ _ _ _ _ _⟩):P:=h
theorem zz33{P:Prop}(h:P:=by
 go_upto_region 3 with(go_at_call 204;first|((with_reducible refine(h2 _).mono ?_);rintro e w1 ⟨rfl,rfl⟩));have r0':(((w6.setCell ⟨B,3,none⟩ (.string ⟨#[]⟩)).setCell ⟨B,4,none⟩ (.string ⟨#[]⟩)).setCell ⟨B,5,none⟩ (.int .i64 0)).heap[B]?=some (.cells #[.int .i64 k,.int .i64 i,.int .i64 g,.string ⟨#[]⟩,.string ⟨#[]⟩,.int .i64 0,.slice so l c,.string y,.int .i64 z] 116 (0,0)):=(zzS _ _ 5 _ _ (.int .i64 0) (zzS _ _ 4 _ _ (.string ⟨#[]⟩) (zzS _ _ 3 _ _ (.string ⟨#[]⟩) r0)))
 have r1':(((w6.setCell ⟨B,3,none⟩ (.string ⟨#[]⟩)).setCell ⟨B,4,none⟩ (.string ⟨#[]⟩)).setCell ⟨B,5,none⟩ (.int .i64 0)).heap[B+1]?=some (.cells zY 116 (0,0)):=((zzq3 _ _ _ _ (by simp)).trans ((zzq3 _ _ _ _ (by simp)).trans ((zzq3 _ _ _ _ (by simp)).trans r1)))
 have hB':Below B w (((w6.setCell ⟨B,3,none⟩ (.string ⟨#[]⟩)).setCell ⟨B,4,none⟩ (.string ⟨#[]⟩)).setCell ⟨B,5,none⟩ (.int .i64 0)):=(((hB.setCell (zzL _) _).setCell (zzL _) _).setCell (zzL _) _);clear q0 q1 q2 q3 q4 q5 q6 q7 q8 z0 r0 r1 hB;generalize(((w6.setCell ⟨B,3,none⟩ (.string ⟨#[]⟩)).setCell ⟨B,4,none⟩ (.string ⟨#[]⟩)).setCell ⟨B,5,none⟩ (.int .i64 0))=w9 at *;obtain⟨q0,q1,q2,q3,q4,q5,q6,q7,q8,z0⟩:=zf r0';obtain⟨p0,p1,p2,p3,p4,p5,p6,p7,p8,z1⟩:=zf r1';go_wp2_with fail;refine zzj (zbj rfl _ _ _ (B+1) _ _ _ _ rfl (zdI _ _ _ _ _ _ _ _ _ r1') Tryz.underlying116 (by kernel_rfl)) rfl ?_;exact⟨rfl,by rw [HBE.out];exact zcC (Nat.le_succ _) hB' _ _ _ _ _ _ _ _ _⟩):P:=h
theorem zz34{P:Prop}(h:P:=by
 cases b0 with
 |false=>
  go_in;go_wp2_with (go_at_call 204;first|((with_reducible refine(h0 _).mono ?_);rintro e w1 ⟨rfl,rfl⟩)|((with_reducible refine(h1 _).mono ?_);rintro e w1 ⟨rfl,rfl⟩)|((with_reducible refine(h3 _).mono ?_);rintro e w1 ⟨rfl,rfl⟩));exact zzj (v:=.tuple #[.agg #[.int .i64 k,.int .i64 0,.int .i64 0,.string ⟨#[]⟩,.string f,.int .i64 0,.slice none 0 0,.string y,.int .i64 z],.bool (false)]) (by simp [results,Tryz.results208,go_sem]) rfl ⟨rfl,zx _ _ _⟩
 |true=>
  cases b1 with
  |false=>
   go_in;go_wp2_with (go_at_call 204;first|((with_reducible refine(h0 _).mono ?_);rintro e w1 ⟨rfl,rfl⟩)|((with_reducible refine(h1 _).mono ?_);rintro e w1 ⟨rfl,rfl⟩)|((with_reducible refine(h3 _).mono ?_);rintro e w1 ⟨rfl,rfl⟩));exact zzj (v:=.tuple #[.agg #[.int .i64 k,.int .i64 0,.int .i64 0,.string ⟨#[]⟩,.string f,.int .i64 0,.slice none 0 0,.string y,.int .i64 z],.bool (false)]) (by simp [results,Tryz.results208,go_sem]) rfl ⟨rfl,zx _ _ _⟩
  |true=>
   go_in;go_wp2_with (go_at_call 204;first|((with_reducible refine(h0 _).mono ?_);rintro e w1 ⟨rfl,rfl⟩)|((with_reducible refine(h1 _).mono ?_);rintro e w1 ⟨rfl,rfl⟩)|((with_reducible refine(h3 _).mono ?_);rintro e w1 ⟨rfl,rfl⟩));refine(h2 _).mono ?_;rintro e w7 ⟨rfl,hb5⟩;have r0:w7.heap[w.heap.size]?=some (.cells #[.int .i64 k,.int .i64 i,.int .i64 g,.string n,.string f,.int .i64 a,.slice so l c,.string y,.int .i64 z] 116 (0,0)):=(hb5.block _ (by simp;omega)).trans (zdk _ _ _)
   have r1:w7.heap[w.heap.size+1]?=some (.cells zY 116 (0,0)):=(hb5.block _ (by simp)).trans (zcL _ _ _)
   have hB:Below w.heap.size w w7:=(zx _ _ _).trans (hb5.mono (by simp;omega));clear hb5;generalize hBe:w.heap.size=B at *;have HBE:=zzH hBe;clear hBe;obtain⟨q0,q1,q2,q3,q4,q5,q6,q7,q8,z0⟩:=zf r0
   cases b2 with
   |false=>
    go_upto_region 3 with(go_at_call 204;first|((with_reducible refine(h0 _).mono ?_);rintro e w1 ⟨rfl,rfl⟩)|((with_reducible refine(h1 _).mono ?_);rintro e w1 ⟨rfl,rfl⟩)|((with_reducible refine(h3 _).mono ?_);rintro e w1 ⟨rfl,rfl⟩));have r0':(((((w7.setCell ⟨B,1,none⟩ (.int .i64 0)).setCell ⟨B,2,none⟩ (.int .i64 0)).setCell ⟨B,3,none⟩ (.string ⟨#[]⟩)).setCell ⟨B,5,none⟩ (.int .i64 0)).setCell ⟨B,6,none⟩ (.slice none 0 0)).heap[B]?=some (.cells #[.int .i64 k,.int .i64 0,.int .i64 0,.string ⟨#[]⟩,.string f,.int .i64 0,.slice none 0 0,.string y,.int .i64 z] 116 (0,0)):=(zzS _ _ 6 _ _ (.slice none 0 0) (zzS _ _ 5 _ _ (.int .i64 0) (zzS _ _ 3 _ _ (.string ⟨#[]⟩) (zzS _ _ 2 _ _ (.int .i64 0) (zzS _ _ 1 _ _ (.int .i64 0) r0)))))
    have r1':(((((w7.setCell ⟨B,1,none⟩ (.int .i64 0)).setCell ⟨B,2,none⟩ (.int .i64 0)).setCell ⟨B,3,none⟩ (.string ⟨#[]⟩)).setCell ⟨B,5,none⟩ (.int .i64 0)).setCell ⟨B,6,none⟩ (.slice none 0 0)).heap[B+1]?=some (.cells zY 116 (0,0)):=((zzq3 _ _ _ _ (by simp)).trans ((zzq3 _ _ _ _ (by simp)).trans ((zzq3 _ _ _ _ (by simp)).trans ((zzq3 _ _ _ _ (by simp)).trans ((zzq3 _ _ _ _ (by simp)).trans r1)))))
    have hB':Below B w (((((w7.setCell ⟨B,1,none⟩ (.int .i64 0)).setCell ⟨B,2,none⟩ (.int .i64 0)).setCell ⟨B,3,none⟩ (.string ⟨#[]⟩)).setCell ⟨B,5,none⟩ (.int .i64 0)).setCell ⟨B,6,none⟩ (.slice none 0 0)):=(((((hB.setCell (zzL _) _).setCell (zzL _) _).setCell (zzL _) _).setCell (zzL _) _).setCell (zzL _) _);clear q0 q1 q2 q3 q4 q5 q6 q7 q8 z0 r0 r1 hB;generalize(((((w7.setCell ⟨B,1,none⟩ (.int .i64 0)).setCell ⟨B,2,none⟩ (.int .i64 0)).setCell ⟨B,3,none⟩ (.string ⟨#[]⟩)).setCell ⟨B,5,none⟩ (.int .i64 0)).setCell ⟨B,6,none⟩ (.slice none 0 0))=w9 at *;obtain⟨q0,q1,q2,q3,q4,q5,q6,q7,q8,z0⟩:=zf r0';obtain⟨p0,p1,p2,p3,p4,p5,p6,p7,p8,z1⟩:=zf r1';go_wp2_with fail;refine zzj (zbj rfl _ _ _ (B+1) _ _ _ _ rfl (zdI _ _ _ _ _ _ _ _ _ r1') Tryz.underlying116 (by kernel_rfl)) rfl ?_;exact⟨rfl,by rw [HBE.out];exact zcC (Nat.le_succ _) hB' _ _ _ _ _ _ _ _ _⟩
   |true=>
    cases b3 with
    |false=>
     go_upto_region 3 with(go_at_call 204;first|((with_reducible refine(h0 _).mono ?_);rintro e w1 ⟨rfl,rfl⟩)|((with_reducible refine(h1 _).mono ?_);rintro e w1 ⟨rfl,rfl⟩)|((with_reducible refine(h3 _).mono ?_);rintro e w1 ⟨rfl,rfl⟩));have r0':(((((w7.setCell ⟨B,1,none⟩ (.int .i64 0)).setCell ⟨B,2,none⟩ (.int .i64 0)).setCell ⟨B,3,none⟩ (.string ⟨#[]⟩)).setCell ⟨B,5,none⟩ (.int .i64 0)).setCell ⟨B,6,none⟩ (.slice none 0 0)).heap[B]?=some (.cells #[.int .i64 k,.int .i64 0,.int .i64 0,.string ⟨#[]⟩,.string f,.int .i64 0,.slice none 0 0,.string y,.int .i64 z] 116 (0,0)):=(zzS _ _ 6 _ _ (.slice none 0 0) (zzS _ _ 5 _ _ (.int .i64 0) (zzS _ _ 3 _ _ (.string ⟨#[]⟩) (zzS _ _ 2 _ _ (.int .i64 0) (zzS _ _ 1 _ _ (.int .i64 0) r0)))))
     have r1':(((((w7.setCell ⟨B,1,none⟩ (.int .i64 0)).setCell ⟨B,2,none⟩ (.int .i64 0)).setCell ⟨B,3,none⟩ (.string ⟨#[]⟩)).setCell ⟨B,5,none⟩ (.int .i64 0)).setCell ⟨B,6,none⟩ (.slice none 0 0)).heap[B+1]?=some (.cells zY 116 (0,0)):=((zzq3 _ _ _ _ (by simp)).trans ((zzq3 _ _ _ _ (by simp)).trans ((zzq3 _ _ _ _ (by simp)).trans ((zzq3 _ _ _ _ (by simp)).trans ((zzq3 _ _ _ _ (by simp)).trans r1)))))
     have hB':Below B w (((((w7.setCell ⟨B,1,none⟩ (.int .i64 0)).setCell ⟨B,2,none⟩ (.int .i64 0)).setCell ⟨B,3,none⟩ (.string ⟨#[]⟩)).setCell ⟨B,5,none⟩ (.int .i64 0)).setCell ⟨B,6,none⟩ (.slice none 0 0)):=(((((hB.setCell (zzL _) _).setCell (zzL _) _).setCell (zzL _) _).setCell (zzL _) _).setCell (zzL _) _);clear q0 q1 q2 q3 q4 q5 q6 q7 q8 z0 r0 r1 hB;generalize(((((w7.setCell ⟨B,1,none⟩ (.int .i64 0)).setCell ⟨B,2,none⟩ (.int .i64 0)).setCell ⟨B,3,none⟩ (.string ⟨#[]⟩)).setCell ⟨B,5,none⟩ (.int .i64 0)).setCell ⟨B,6,none⟩ (.slice none 0 0))=w9 at *;obtain⟨q0,q1,q2,q3,q4,q5,q6,q7,q8,z0⟩:=zf r0';obtain⟨p0,p1,p2,p3,p4,p5,p6,p7,p8,z1⟩:=zf r1';go_wp2_with fail;refine zzj (zbj rfl _ _ _ (B+1) _ _ _ _ rfl (zdI _ _ _ _ _ _ _ _ _ r1') Tryz.underlying116 (by kernel_rfl)) rfl ?_;exact⟨rfl,by rw [HBE.out];exact zcC (Nat.le_succ _) hB' _ _ _ _ _ _ _ _ _⟩
    |true=>
     go_upto_region 3 with(go_at_call 204;first|((with_reducible refine(h0 _).mono ?_);rintro e w1 ⟨rfl,rfl⟩)|((with_reducible refine(h1 _).mono ?_);rintro e w1 ⟨rfl,rfl⟩)|((with_reducible refine(h3 _).mono ?_);rintro e w1 ⟨rfl,rfl⟩));have r0':(((((w7.setCell ⟨B,1,none⟩ (.int .i64 0)).setCell ⟨B,2,none⟩ (.int .i64 0)).setCell ⟨B,3,none⟩ (.string ⟨#[]⟩)).setCell ⟨B,5,none⟩ (.int .i64 0)).setCell ⟨B,6,none⟩ (.slice none 0 0)).heap[B]?=some (.cells #[.int .i64 k,.int .i64 0,.int .i64 0,.string ⟨#[]⟩,.string f,.int .i64 0,.slice none 0 0,.string y,.int .i64 z] 116 (0,0)):=(zzS _ _ 6 _ _ (.slice none 0 0) (zzS _ _ 5 _ _ (.int .i64 0) (zzS _ _ 3 _ _ (.string ⟨#[]⟩) (zzS _ _ 2 _ _ (.int .i64 0) (zzS _ _ 1 _ _ (.int .i64 0) r0)))))
     have r1':(((((w7.setCell ⟨B,1,none⟩ (.int .i64 0)).setCell ⟨B,2,none⟩ (.int .i64 0)).setCell ⟨B,3,none⟩ (.string ⟨#[]⟩)).setCell ⟨B,5,none⟩ (.int .i64 0)).setCell ⟨B,6,none⟩ (.slice none 0 0)).heap[B+1]?=some (.cells zY 116 (0,0)):=((zzq3 _ _ _ _ (by simp)).trans ((zzq3 _ _ _ _ (by simp)).trans ((zzq3 _ _ _ _ (by simp)).trans ((zzq3 _ _ _ _ (by simp)).trans ((zzq3 _ _ _ _ (by simp)).trans r1)))))
     have hB':Below B w (((((w7.setCell ⟨B,1,none⟩ (.int .i64 0)).setCell ⟨B,2,none⟩ (.int .i64 0)).setCell ⟨B,3,none⟩ (.string ⟨#[]⟩)).setCell ⟨B,5,none⟩ (.int .i64 0)).setCell ⟨B,6,none⟩ (.slice none 0 0)):=(((((hB.setCell (zzL _) _).setCell (zzL _) _).setCell (zzL _) _).setCell (zzL _) _).setCell (zzL _) _);clear q0 q1 q2 q3 q4 q5 q6 q7 q8 z0 r0 r1 hB;generalize(((((w7.setCell ⟨B,1,none⟩ (.int .i64 0)).setCell ⟨B,2,none⟩ (.int .i64 0)).setCell ⟨B,3,none⟩ (.string ⟨#[]⟩)).setCell ⟨B,5,none⟩ (.int .i64 0)).setCell ⟨B,6,none⟩ (.slice none 0 0))=w9 at *;obtain⟨q0,q1,q2,q3,q4,q5,q6,q7,q8,z0⟩:=zf r0';obtain⟨p0,p1,p2,p3,p4,p5,p6,p7,p8,z1⟩:=zf r1';go_wp2_with fail;refine zzj (zbj rfl _ _ _ (B+1) _ _ _ _ rfl (zdI _ _ _ _ _ _ _ _ _ r1') Tryz.underlying116 (by kernel_rfl)) rfl ?_;exact⟨rfl,by rw [HBE.out];exact zcC (Nat.le_succ _) hB' _ _ _ _ _ _ _ _ _⟩):P:=h
theorem zzq10:type_of% @List.drop_eq_nil_of_le.{0}:=@List.drop_eq_nil_of_le
theorem zz35{P:Prop}(h:P:=by
 simp only [zzq11,Bool.false_and,Bool.and_true,Bool.and_false]at E0;go_in;go_wp2;go_ret;exact⟨zi E0.out.symm,HBE.out⟩):P:=h
theorem zz36{P:Prop}(h:P:=by
 go_wp2_with fail;go_roundw
 case rel=>exact⟨k+1,by omega,by go_num,HBR.out.drew.trans (hb5.mono HBR.out.size)⟩
 case measure=>simp [intOf];omega):P:=h
theorem zz37{P:Prop}(h:P:=by
 go_wp2_with fail;go_quiet (fail);go_wp2_with fail;go_roundw
 case rel=>exact⟨k+1,by omega,by go_num,zg HBR.out _⟩
 case measure=>simp [intOf];omega):P:=h
theorem zz38{P:Prop}(h:P:=by
 go_wp2_with fail
 all_goals go_ret
 all_goals exact⟨zcp E.out.symm,hB.alloc hB.size _⟩):P:=h
theorem zz39{P:Prop}(h:P:=by
 go_in;go_wp2_with (go_at_call 204;refine(h0 _).mono ?_;rintro e w1 ⟨rfl,rfl⟩);exact zzj (v:=.tuple #[.agg #[.int .i64 k,.int .i64 i,.int .i64 g,.string n,.string f,.int .i64 a,.slice so l c,.string ⟨#[]⟩,.int .i64 0],.bool false]) (by simp [results,Tryz.results213,go_sem]) rfl ⟨rfl,zx _ _ _⟩):P:=h
theorem zzq9:type_of% @decide_eq_true_eq:=@decide_eq_true_eq
theorem zz40{P:Prop}(h:P:=by
 rintro e w' ⟨rfl,hb'⟩;refine⟨so,c,?_,?_,hb'⟩
 ·(rw [e1,e2])<;>rfl
 ·rw [e1];exact hs):P:=h
theorem zz41{P:Prop}(h:P:=by
 have e1:zk t= .mk t.kind 0 0 ⟨#[]⟩ t.func t.arity t.items t.bytes t.bits:=by unfold zk;simp [hk]
 have e2:okK t=(wi t.int 1 2147483647&&wi t.gen 1 2147483647&&zy t.name):=by unfold okK;simp [hk]
 refine(zjV t.kind t.int t.gen t.name t.func t.arity so t.items.length c t.bytes t.bits w).mono ?_;rintro e w' ⟨rfl,hb'⟩;refine⟨so,c,?_,?_,hb'⟩
 ·(rw [e1,e2])<;>rfl
 ·rw [e1];exact hs):P:=h
theorem zz42{P:Prop}(h:P:=by
 rintro e w' ⟨rfl,hb'⟩;refine⟨none,0,?_,?_,hb'⟩
 ·(rw [e1,e2])<;>rfl
 ·rw [e1];exact SlAt.nil w0 9 _ none):P:=h
theorem zz43{P:Prop}(h:P:=by
 go_in;go_wp2;go_ret;exact⟨zi E.out.symm,zT H2.out _,s,Int.le_refl _,by omega,hm.below H2.out,fun h=>absurd (E.out.symm.trans h) (by decide)⟩):P:=h
theorem zz47{P:Prop}(h:P:=by
 go_wp2_with fail;go_meet
 case rel=>exact⟨_,so',c',rfl,rfl,hbb.size,hs',zzF _ _,hbb.alloc hbb.size _⟩):P:=h
theorem zz46{P:Prop}(h:P:=by
 go_wp2_with fail;go_meet
 case rel=>exact⟨_,so',c',rfl,rfl,zzL _,hs',zdI _ _ _ _ _ _ _ _ _ XL.out,zcC (zzL _) hbb _ _ _ _ _ _ _ _ _⟩):P:=h
theorem zz44{P:Prop}(h:P:=by
 first|go_region_held3 (fun w'=>W2.heap.size<=w'.heap.size/\ ∀b o,b<W2.heap.size->w'.cell? ⟨b,o,none⟩=W2.cell? ⟨b,o,none⟩) (first|with_reducible exact HK5.out|with_reducible exact SK0.out|with_reducible exact zZ SK0.out|with_reducible exact SK1.out|with_reducible exact zZ HK5.out|with_reducible exact zb8 HK5.out)
  ((go_at_call 203;refine(hQ _).mono ?_;rintro e w5 ⟨so',c',rfl,hs',hb5⟩;first|(have hbb:Below W2.heap.size W2 w5:=(by with_reducible exact zd HDR.out hb5);have HK5:=zzH (zbf hbb))|(have hbb:Below W2.heap.size W2 w5:=(by with_reducible exact zd HDA.out hb5);have xl:w5.heap[W2.heap.size]?=some (.cells zY 116 (0,0)):=(hb5.block W2.heap.size (zb HAN.out)).trans HAN.out;have XL:=zzH xl;obtain⟨l0,l1,l2,l3,l4,l5,l6,l7,l8,lz⟩:=zf xl;clear xl;have HK5:=zzH (zbf hbb))))|fail
 ·go_wp2_with fail
  go_meet
  case rel=>exact⟨_,so',c',rfl,rfl,hbb.size,hs',zzF _ _,hbb.alloc hbb.size _⟩
 ·go_wp2_with fail
  go_meet
  case rel=>exact⟨_,so',c',rfl,rfl,zzL _,hs',zdI _ _ _ _ _ _ _ _ _ XL.out,zcC (zzL _) hbb _ _ _ _ _ _ _ _ _⟩):P:=h
theorem zz45{P:Prop}(h:P:=by
 clear hR0 hR1 yz;generalize t.items.all (zr f)=al at *;generalize zbA (t.items.map (zD f))=sw at *;generalize zR (t.items.map (zv f))=sc at *
 cases al with
 |false=>
  go_wp2_with fail;refine hCF.mono ?_;rintro e w9 ⟨rfl,hg9,s',z1,z2,z3,z4⟩;go_wp2;go_ret;exact⟨zi EF.out.symm,zbe HG8.out hg9,s',by omega,by omega,z3,fun h=>absurd (EF.out.symm.trans h) (by decide)⟩
 |true=>
  go_wp2_with fail;refine hCF.mono ?_;rintro e w9 ⟨rfl,hg9,s',z1,z2,z3,z4⟩;go_wp2;go_ret;exact⟨zi EF.out.symm,zbe HG8.out hg9,s',by omega,by omega,z3,fun _=>by rw [EW.out,z4 (by trivial)];omega⟩):P:=h
theorem zz48{P:Prop}(h:P:=by
 have h:=(hB0r.cell (p:=⟨b1,off1+k*9+6,none⟩) hb1').symm.trans q6;rw [q6']at h;injection h with h;injection h with h1 h2;exact h1.symm):P:=h
theorem zz49{P:Prop}(h:P:=by
 go_wp2_with fail;go_roundw
 case rel=>exact⟨k+1,by omega,by go_num,HG5⟩
 case measure=>simp [intOf];omega):P:=h
theorem zz50{P:Prop}(h:P:=by
 go_in;go_wp2_with fail;refine hS.mono ?_;rintro e w5 ⟨rfl,hb5⟩;go_wp2;go_ret;exact⟨zcp E.out.symm,zd HB.out hb5⟩):P:=h
theorem zz53{P:Prop}(h:P:=by
 go_in;go_wp2_with fail;refine(hnm _).mono ?_;rintro e w5 ⟨rfl,hb5⟩;have d1:=(HU.out.below hb5).c1;have d2:=(HU.out.below hb5).c2;have d3:=(HU.out.below hb5).c3;have d4:=(HU.out.below hb5).c4;go_wp2;go_ret;exact⟨zi E.out.symm,hb5⟩):P:=h
theorem zz52{P:Prop}(h:P:=by
 have E:Hid (zF (f+1) u=false):=zzH (by rw [HE2.out,HNO.out (.inl (by rw [HFO.out];rfl))];rfl);go_wp2_with (go_at_call 71;first|((with_reducible refine(hwa _).mono ?_);rintro e w1 ⟨rfl,rfl⟩)|((with_reducible refine(hwe _).mono ?_);rintro e w1 ⟨rfl,rfl⟩));go_ret;exact⟨zi E.out.symm,HB6.out⟩):P:=h
theorem zz51{P:Prop}(h:P:=by
 have E:=zzH (HNO.out (by rw [HFB2.out];rfl));go_wp2_with (go_at_call 71;first|((with_reducible refine(hwa _).mono ?_);rintro e w1 ⟨rfl,rfl⟩)|((with_reducible refine(hwf _).mono ?_);rintro e w1 ⟨rfl,rfl⟩)|((with_reducible refine(hwe _).mono ?_);rintro e w1 ⟨rfl,rfl⟩));go_ret;exact⟨zi E.out.symm,HBX.out⟩):P:=h
theorem zz55{P:Prop}(h:P:=by
 have t1:(x.n==1)=true:=by rw [n1];rfl
 have E2:Hid (zh u.funcs.length u.funs x=true):=zzH (by rw [E.out,decide_eq_true n1];rfl);clear n1;go_in;go_wp2;go_ret;exact⟨zi E2.out.symm,zzR _ _⟩):P:=h
theorem zz54{P:Prop}(h:P:=by
 have t1:(x.n==1)=false:=zzB.2 n1;by_cases n8:x.n=8
 ·have t2:(x.n==8)=true:=by rw [n8];rfl
  have E2:Hid (zh u.funcs.length u.funs x=true):=zzH (by rw [E.out,decide_eq_true n8];simp);clear n1 n8;go_in;go_wp2;go_ret;exact⟨zi E2.out.symm,zzR _ _⟩
 ·have t2:(x.n==8)=false:=zzB.2 n8
  have E2:Hid (zh u.funcs.length u.funs x=false):=zzH (by rw [E.out,decide_eq_false n1,decide_eq_false n8];rfl);clear n1 n8;go_in;go_wp2;go_ret;exact⟨zi E2.out.symm,zzR _ _⟩):P:=h
theorem zz56{P:Prop}(h:P:=by
 clear hz hm;go_in;go_wp2_with fail;go_quiet ((go_at_call 71;exact zze (hwr _)));go_wp2;go_ret;exact⟨zi E3.out.symm,zg (zzR _ _) _⟩):P:=h
abbrev zzJ:=@Int.eq_ofNat_of_zero_le
theorem zzq13:type_of% @Int.toNat_natCast:=@Int.toNat_natCast
theorem zz57{P:Prop}(h:P:=by
 go_in;go_wp2;go_ret;exact⟨zi E.out.symm,rfl⟩):P:=h
theorem zzq12:type_of% @Bool.or_false:=@Bool.or_false
theorem zzq15:type_of% @Bool.true_or:=@Bool.true_or
theorem zzq14:type_of% @Bool.or_true:=@Bool.or_true
theorem zzX1:type_of% (And.intro @Bool.true_or (And.intro @Bool.or_true (And.intro @Bool.false_or (And.intro @Bool.or_false (And.intro @Bool.and_true (And.intro @Bool.and_false (And.intro @Bool.true_and (And.intro @Bool.false_and (And.intro @Bool.not_true @Bool.not_false))))))))):=And.intro @Bool.true_or (And.intro @Bool.or_true (And.intro @Bool.false_or (And.intro @Bool.or_false (And.intro @Bool.and_true (And.intro @Bool.and_false (And.intro @Bool.true_and (And.intro @Bool.false_and (And.intro @Bool.not_true @Bool.not_false))))))))
theorem zz59{P:Prop}(h:P:=by
 simp only [zzX1]at E0;go_in;go_wp2_with (first|(go_at_call 74;refine(hO _).mono ?_;rintro e w1 ⟨rfl,rfl⟩)|(go_at_call 75;refine hCl.mono ?_;rintro e w5 ⟨rfl,hb5⟩))
 all_goals go_ret
 all_goals first
  |exact⟨zi E0.out.symm,zzR _ _⟩
  |exact⟨zi E0.out.symm,hb5⟩):P:=h
theorem zz58{P:Prop}(h:P:=by
 cases t3:(nm.toList== [43,43])with
 |true=>
  simp only [t3]at E0
  cases q1:(cl==1)with
  |true=>
   simp only [q1]at E0;simp only [zzX1]at E0;go_in;go_wp2_with (first|(go_at_call 74;refine(hO _).mono ?_;rintro e w1 ⟨rfl,rfl⟩)|(go_at_call 75;refine hCl.mono ?_;rintro e w5 ⟨rfl,hb5⟩))
   all_goals go_ret
   all_goals first
    |exact⟨zi E0.out.symm,zzR _ _⟩
    |exact⟨zi E0.out.symm,hb5⟩
  |false=>
   simp only [q1]at E0;simp only [zzX1]at E0;go_in;go_wp2_with (first|(go_at_call 74;refine(hO _).mono ?_;rintro e w1 ⟨rfl,rfl⟩)|(go_at_call 75;refine hCl.mono ?_;rintro e w5 ⟨rfl,hb5⟩))
   all_goals go_ret
   all_goals first
    |exact⟨zi E0.out.symm,zzR _ _⟩
    |exact⟨zi E0.out.symm,hb5⟩
 |false=>
  simp only [t3]at E0
  cases ob with
  |true=>
   simp only [zzX1]at E0;go_in;go_wp2_with (first|(go_at_call 74;refine(hO _).mono ?_;rintro e w1 ⟨rfl,rfl⟩)|(go_at_call 75;refine hCl.mono ?_;rintro e w5 ⟨rfl,hb5⟩))
   all_goals go_ret
   all_goals first
    |exact⟨zi E0.out.symm,zzR _ _⟩
    |exact⟨zi E0.out.symm,hb5⟩
  |false=>
   cases q1:(cl==1)with
   |true=>
    simp only [q1]at E0;simp only [zzX1]at E0;go_in;go_wp2_with (first|(go_at_call 74;refine(hO _).mono ?_;rintro e w1 ⟨rfl,rfl⟩)|(go_at_call 75;refine hCl.mono ?_;rintro e w5 ⟨rfl,hb5⟩))
    all_goals go_ret
    all_goals first
     |exact⟨zi E0.out.symm,zzR _ _⟩
     |exact⟨zi E0.out.symm,hb5⟩
   |false=>
    simp only [q1]at E0;simp only [zzX1]at E0;go_in;go_wp2_with (first|(go_at_call 74;refine(hO _).mono ?_;rintro e w1 ⟨rfl,rfl⟩)|(go_at_call 75;refine hCl.mono ?_;rintro e w5 ⟨rfl,hb5⟩))
    all_goals go_ret
    all_goals first
     |exact⟨zi E0.out.symm,zzR _ _⟩
     |exact⟨zi E0.out.symm,hb5⟩):P:=h
theorem zz61{P:Prop}(h:P:=by
 simp only [zzq15,zzq14,zzq8,zzq12]at E0;go_in;go_wp2_with fail;refine hCl.mono ?_;rintro e w5 ⟨rfl,hb5⟩;have d3:=(hb5.cell (p:=⟨b,o+3,none⟩) hlt).trans c3;have d7:=(hb5.cell (p:=⟨b,o+7,none⟩) hlt).trans c7;go_wp2_with (go_at_call 74;refine(hO _).mono ?_;rintro e w1 ⟨rfl,rfl⟩)
 all_goals go_ret
 all_goals exact⟨zi E0.out.symm,hb5⟩):P:=h
theorem zz60{P:Prop}(h:P:=by
 simp only [q2]at E0;simp only [zzq15,zzq14,zzq8,zzq12]at E0;go_in;go_wp2_with fail;refine hCl.mono ?_;rintro e w5 ⟨rfl,hb5⟩;have d3:=(hb5.cell (p:=⟨b,o+3,none⟩) hlt).trans c3;have d7:=(hb5.cell (p:=⟨b,o+7,none⟩) hlt).trans c7;go_wp2_with (go_at_call 74;refine(hO _).mono ?_;rintro e w1 ⟨rfl,rfl⟩)
 all_goals go_ret
 all_goals exact⟨zi E0.out.symm,hb5⟩):P:=h
theorem zz62{P:Prop}(h:P:=by
 simp only [q3]at E0;simp only [zzq15,zzq14,zzq8,zzq12,Bool.and_true,Bool.and_false,zzq11,Bool.false_and]at E0;go_in;go_wp2_with fail
 first|go_region_held3 (fun w'=>w'.cell? ⟨b,o+7,none⟩=some (.string nm)/\w'.cell? ⟨b,o+5,none⟩=some (.int .i64 ln)) (exact⟨by assumption,by assumption⟩)
  ((go_at_call 75;refine(hCl _ ?_).mono ?_;exact HDR.out;rintro e w5 ⟨rfl,hb5⟩;have d7:=(hb5.cell (p:=⟨b,o+7,none⟩) hlt).trans c7;have d5:=(hb5.cell (p:=⟨b,o+5,none⟩) hlt).trans c5))|fail
 go_wp2;go_ret
 first
  |exact⟨zi E0.out.symm,hb5⟩
  |exact⟨zi E0.out.symm,zzR _ _⟩):P:=h
theorem zzX2:type_of% (And.intro @List.getElem_toArray.{0} (And.intro @List.getElem_cons_zero.{0} @List.getElem_cons_succ.{0})):=And.intro @List.getElem_toArray.{0} (And.intro @List.getElem_cons_zero.{0} @List.getElem_cons_succ.{0})
theorem zz63{P:Prop}(h:P:=by
 go_in;go_wp2_with (go_at_call 226;refine(zg5 _ _).mono ?_;rintro e w1 ⟨rfl,rfl⟩);go_ret;exact⟨zcp E.out.symm,rfl⟩):P:=h
theorem zz68{P:Prop}(h:P:=by
 go_wp2_with (go_at_call 71;refine(hwi _).mono ?_;rintro e w1 ⟨rfl,rfl⟩);go_meet
 case rel=>exact⟨_,rfl,zzH (by rw [hv.out];(first|rfl|(rw [sd];rfl)|(rw [decide_eq_true s60'];rfl))),rfl⟩):P:=h
theorem zz69{P:Prop}(h:P:=by
 go_wp2_with fail;go_meet
 case rel=>exact⟨_,rfl,zzH (by rw [hv.out];(first|rfl|(rw [sd];rfl)|(rw [decide_eq_true s60'];rfl))),rfl⟩):P:=h
theorem zz66{P:Prop}(h:P:=by
 rw [hz]at HSB;clear hz;have hsv0:sb=false:=by rw [HSB.out];simp []
 have HSV:=zzH hsv0;clear hsv0;go_wp2_with (go_at_call 71;refine(hwt _).mono ?_;rintro e w1 ⟨rfl,rfl⟩);have HE3:Hid (zbF u.lits x=false):=zzH (by rw [HE2.out,HK.out,HST.out,HSV.out];rfl);go_ret;exact⟨zi HE3.out.symm,HBQ.out.trans (HBX.out.mono HBQ.out.size)⟩):P:=h
theorem zz65{P:Prop}(h:P:=by
 rw [hz]at HSB;clear hz;have hsv0:sb=false:=by rw [HSB.out];simp []
 have HSV:=zzH hsv0;clear hsv0;go_wp2_with (go_at_call 71;refine(hwt _).mono ?_;rintro e w1 ⟨rfl,rfl⟩);refine(hop1 _ HBX.out).mono ?_;rintro e w5 ⟨rfl,hb5⟩;have HB5:=zzH (zd HBX.out hb5);have hbra:=(hb5.block wr.heap.size (zb HBR.out)).trans HBR.out;obtain⟨g0,g1,g2,g3,g4,g5⟩:=zcz hbra;clear hb5;have HE3:Hid (zbF u.lits x=false):=zzH (by rw [HE2.out,HK.out,HST.out,HSV.out];rfl);go_wp2;go_ret;exact⟨zi HE3.out.symm,HBQ.out.trans (HB5.out.mono HBQ.out.size)⟩):P:=h
theorem zz64{P:Prop}(h:P:=by
 rw [hz]at HSB;clear hz
 cases os with
 |false=>
  have hsv0:sb=false:=by rw [HSB.out];simp []
  have HSV:=zzH hsv0;clear hsv0;go_wp2_with (go_at_call 71;refine(hwt _).mono ?_;rintro e w1 ⟨rfl,rfl⟩);refine(hop1 _ HBX.out).mono ?_;rintro e w5 ⟨rfl,hb5⟩;have HB5:=zzH (zd HBX.out hb5);have hbra:=(hb5.block wr.heap.size (zb HBR.out)).trans HBR.out;obtain⟨g0,g1,g2,g3,g4,g5⟩:=zcz hbra;clear hb5;go_wp2_with fail;refine(hop2 _ HB5.out).mono ?_;rintro e w6 ⟨rfl,hb6⟩;have HB6:=zzH (zd HB5.out hb6);clear g0 g1 g2 g3 g4 g5;have hbrb:=(hb6.block wr.heap.size (zb hbra)).trans hbra;obtain⟨g0,g1,g2,g3,g4,g5⟩:=zcz hbrb;clear hb6;have HE3:Hid (zbF u.lits x=false):=zzH (by rw [HE2.out,HK.out,HST.out,HSV.out];rfl);go_wp2;go_ret;exact⟨zi HE3.out.symm,HBQ.out.trans (HB6.out.mono HBQ.out.size)⟩
 |true=>
  go_wp2_with (go_at_call 71;refine(hwt _).mono ?_;rintro e w1 ⟨rfl,rfl⟩);refine(hop1 _ HBX.out).mono ?_;rintro e w5 ⟨rfl,hb5⟩;have HB5:=zzH (zd HBX.out hb5);have hbra:=(hb5.block wr.heap.size (zb HBR.out)).trans HBR.out;obtain⟨g0,g1,g2,g3,g4,g5⟩:=zcz hbra;clear hb5;go_wp2_with fail;refine(hop2 _ HB5.out).mono ?_;rintro e w6 ⟨rfl,hb6⟩;have HB6:=zzH (zd HB5.out hb6);clear g0 g1 g2 g3 g4 g5;have hbrb:=(hb6.block wr.heap.size (zb hbra)).trans hbra;obtain⟨g0,g1,g2,g3,g4,g5⟩:=zcz hbrb;clear hb6
  cases lit with
  |false=>
   have hsv0:sb=true:=by rw [HSB.out];simp []
   have HSV:=zzH hsv0;clear hsv0;have HK2:Hid (x.segs.all (zbU u.lits.length)=(x.segs.drop (k+1)).all (zbU u.lits.length)):=zzH (by rw [HK.out,HST.out,HSV.out];rfl);go_wp2_with fail;go_roundw
   case rel=>exact⟨k+1,by omega,by go_num,HK2,HBQ.out.trans (HB6.out.mono HBQ.out.size)⟩
   case measure=>simp [intOf];omega
  |true=>
   cases ty1:(ty==1)with
   |true=>
    have ty2 : (ty != 1) = false := by unfold bne; rw [ty1]; rfl
    have hsv0:sb=true:=by rw [HSB.out];simp [ty1]
    have HSV:=zzH hsv0;clear hsv0;have HK2:Hid (x.segs.all (zbU u.lits.length)=(x.segs.drop (k+1)).all (zbU u.lits.length)):=zzH (by rw [HK.out,HST.out,HSV.out];rfl);go_wp2_with fail;go_roundw
    case rel=>exact⟨k+1,by omega,by go_num,HK2,HBQ.out.trans (HB6.out.mono HBQ.out.size)⟩
    case measure=>simp [intOf];omega
   |false=>
    have ty2 : (ty != 1) = true := by unfold bne; rw [ty1]; rfl
    have hsv0:sb=false:=by rw [HSB.out];simp [ty1]
    have HSV:=zzH hsv0;clear hsv0;have HE3:Hid (zbF u.lits x=false):=zzH (by rw [HE2.out,HK.out,HST.out,HSV.out];rfl);go_wp2;go_ret;exact⟨zi HE3.out.symm,HBQ.out.trans (HB6.out.mono HBQ.out.size)⟩):P:=h
theorem zz67{P:Prop}(h:P:=by
 have HSV:=zzH hsv0;clear hsv0;have HK2:Hid (x.segs.all (zbU u.lits.length)=(x.segs.drop (k+1)).all (zbU u.lits.length)):=zzH (by rw [HK.out,HST.out,HSV.out];rfl);go_wp2_with fail;go_roundw
 case rel=>exact⟨k+1,by omega,by go_num,HK2,HBQ.out.trans (HB5.out.mono HBQ.out.size)⟩
 case measure=>simp [intOf];omega):P:=h
theorem zz70{P:Prop}(h:P:=by
 have:=zzp.1 hg g hm;unfold zcg at this;rw [zzq6,zzq6]at this;have a:=zbn this.1;have b:=zbn this.2.1;have c:=zbn this.2.2;omega):P:=h
abbrev zzh:=@List.mem_cons_of_mem
theorem zz71{P:Prop}(h:P:=by
 go_wp2_with fail;go_quiet (fail);go_wp2_with fail;go_roundw
 case rel=>exact⟨k+1,_,by omega,by go_num,rfl,zg hB _⟩
 case measure=>simp [intOf];omega):P:=h
theorem zz72{P:Prop}(h:P:=by
 go_wp2_with fail
 all_goals go_ret
 all_goals exact⟨_,rfl,HBA.out.trans (hB.mono HBA.out.size),fun e=>by cases e⟩):P:=h
theorem zz73{P:Prop}(h:P:=by
 go_in;go_wp2;go_ret;exact⟨zO E.out.symm,rfl⟩):P:=h
abbrev zzl:=@beq_iff_eq
theorem zzq7:type_of% @Array.getElem?_setIfInBounds.{0}:=@Array.getElem?_setIfInBounds
theorem zz74{P:Prop}(h:P:=by
 rw [zzq0 _ _ _ _ _ _ hb,hr j hj,List.getD_eq_getElem?_getD,zzq4 hj];rfl):P:=h
theorem zz76{P:Prop}(h:P:=by
 have h:=zfD t1 t2 to' to2 tc tc' wx (HT.out.heap hx) (HT'.out.heap hx) l1 l2
 rwa [b2]at h):P:=h
theorem zz75{P:Prop}(h:P:=by
 clear h1 h2 h3 h4 E;go_in;go_wp2_with fail;go_quiet (fail);go_wp2_with fail;go_quiet ((refine zd5 (HE.out _ ?_);rfl));go_wp2_with fail;go_quiet (fail);go_wp2;go_ret;exact⟨zO E1.out.symm,by first|exact⟨_,rfl⟩|(simp only [World.drewN_drewN];exact⟨_,rfl⟩)⟩):P:=h
theorem zz109{P:Prop}(h:P:=by
 go_wp2_with fail;go_quiet (fail);go_wp2;go_ret;exact⟨zO E1.out.symm,by first|exact⟨_,rfl⟩|(simp only [World.drewN_drewN];exact⟨_,rfl⟩)⟩):P:=h
theorem zz77{P:Prop}(h:P:=by
 go_wp2_with fail;go_meet
 case rel=>exact⟨rfl,zzH ⟨zzF _ _,(zzE _ _).drew⟩⟩):P:=h
theorem zz78{P:Prop}(h:P:=by
 cases kb with
 |true=>
  go_wp2_with fail;refine HCL.out.mono ?_;rintro e w1 ⟨rfl,nq,rfl⟩;go_wp2_with fail;exact⟨⟨j+1,hlt,by go_num,by rw [HK2.out],FIN.out nq HW2.out⟩,by simp [intOf];omega⟩
 |false=>
  go_wp2_with fail;refine HCL.out.mono ?_;rintro e w1 ⟨rfl,nq,rfl⟩;go_wp2_with fail;exact⟨⟨j+1,hlt,by go_num,by rw [HK2.out],FIN.out nq HW2.out⟩,by simp [intOf];omega⟩):P:=h
theorem zz79{P:Prop}(h:P:=by
 cases kb with
 |true=>
  go_wp2_with fail;refine HCL.out.mono ?_;rintro e w1 ⟨rfl,nq,rfl⟩;go_wp2_with fail;exact⟨⟨j+1,hlt,by go_num,by rw [HK2.out],FIS.out nq HW2.out⟩,by simp [intOf];omega⟩
 |false=>
  go_wp2_with fail;refine HCL.out.mono ?_;rintro e w1 ⟨rfl,nq,rfl⟩;go_wp2_with fail;exact⟨⟨j+1,hlt,by go_num,by rw [HK2.out],FIS.out nq HW2.out⟩,by simp [intOf];omega⟩):P:=h
theorem zz80{P:Prop}(h:P:=by
 clear c0 HE2;go_wp2_with fail;refine HR.out.mono ?_;rintro e w1 ⟨rfl,rfl⟩;go_wp2_with fail;refine(zbp _ _ _).mono ?_;rintro e w1 ⟨rfl,rfl⟩;go_wp2;go_ret2;exact⟨zdy HT2.out.symm HE3.out.symm,HB.out⟩):P:=h
theorem zz81{P:Prop}(h:P:=by
 clear HT2 d9 d7;go_wp2_with fail;go_quiet (fail);go_wp2;go_ret2;exact⟨zdy HT3.out.symm HE2.out.symm,zg HB.out _⟩):P:=h
theorem zz84{P:Prop}(h:P:=by
 unfold zQ;rw [List.headD_eq_head?_getD,List.head?_eq_getElem?,zzq4 hl0];rfl):P:=h
theorem zz83{P:Prop}(h:P:=by
 clear d HR2;go_in;go_wp2_with fail;refine(HK.out _ (zzR _ _)).mono ?_;rintro e w1 ⟨rfl,hb1⟩;have j5:=(HI.out.below hb1).c5;go_wp2_with fail;refine(zbp _ _ _).mono ?_;rintro e w1 ⟨rfl,rfl⟩;go_wp2;go_ret;exact⟨zO HR3.out,hb1⟩):P:=h
theorem zz82{P:Prop}(h:P:=by
 clear d HR2;rcases c67 with rfl|rfl
 all_goals
  go_in;go_wp2_with fail;refine(HK.out _ (zzR _ _)).mono ?_;rintro e w1 ⟨rfl,hb1⟩;go_wp2_with fail;refine(zbp _ _ _).mono ?_;rintro e w1 ⟨rfl,rfl⟩;go_wp2;go_ret;exact⟨zO HR3.out,hb1⟩):P:=h
theorem zz85{P:Prop}(h:P:=by
 go_in;go_wp2;go_ret;exact⟨zO HR2.out.symm,zzR _ _⟩):P:=h
theorem zz86{P:Prop}(h:P:=by
 clear d HR2;rcases h1 with rfl|rfl
 all_goals
  go_in;go_wp2_with fail;refine(zbp _ _ _).mono ?_;rintro e w1 ⟨rfl,rfl⟩;go_wp2;go_ret;exact⟨zO HR3.out,rfl⟩):P:=h
theorem zz87{P:Prop}(h:P:=by
 clear d HR2;rcases h2 with rfl|rfl
 all_goals
  go_in;go_wp2_with fail;refine(zbp _ _ _).mono ?_;rintro e w1 ⟨rfl,rfl⟩;go_wp2;go_ret;exact⟨zO HR3.out,rfl⟩):P:=h
theorem zz88{P:Prop}(h:P:=by
 clear d HR2;go_in;go_wp2_with fail;refine(zbp _ _ _).mono ?_;rintro e w1 ⟨rfl,rfl⟩;go_wp2;go_ret;exact⟨zO HR3.out,rfl⟩):P:=h
theorem zz90{P:Prop}(h:P:=by
 go_in;go_wp2_with (go_at_call 93;refine(zbp _ _ _).mono ?_;rintro e w1 ⟨rfl,rfl⟩);go_ret;exact⟨zO HR2.out,rfl⟩):P:=h
theorem zz89{P:Prop}(h:P:=by
 clear HR h1 h2;go_in;go_wp2_with (go_at_call 93;refine(zbp _ _ _).mono ?_;rintro e w1 ⟨rfl,rfl⟩);go_ret;exact⟨zO HR2.out,rfl⟩):P:=h
theorem zz91{P:Prop}(h:P:=by
 clear HR h1 h2;go_in;go_wp2_with (first|(go_at_call 93;refine(zbp _ _ _).mono ?_;rintro e w1 ⟨rfl,rfl⟩)|(go_at_call 95;refine(HLV.out _).mono ?_;rintro e w1 ⟨rfl,rfl⟩));go_ret;exact⟨zO HR2.out,rfl⟩):P:=h
theorem zz94{P:Prop}(h:P:=by
 clear HR h0 h1 hL;generalize s.tries.length=n at *;go_in;go_wp2_with (go_at_call 93;refine(zbp _ _ _).mono ?_;rintro e w1 ⟨rfl,rfl⟩);go_ret;exact⟨zO HR2.out,0,rfl⟩):P:=h
theorem zz93{P:Prop}(h:P:=by
 clear HR1;go_in;go_wp2_with fail;go_quiet (first|(go_at_call 95;exact zze (HLV.out _))|(go_at_call 97;exact zze (HRS.out _))|(go_at_call 93;exact zze (zbp _ _ _)));go_wp2;go_ret;exact⟨zO HR2.out,_,rfl⟩):P:=h
theorem zz92{P:Prop}(h:P:=by
 clear HR1 h2;go_in;go_wp2_with fail;go_quiet (first|(go_at_call 95;exact zze (HLV.out _))|(go_at_call 97;exact zze (HRS.out _))|(go_at_call 93;exact zze (zbp _ _ _)));go_wp2;go_ret;exact⟨zO HR2.out,_,rfl⟩):P:=h
theorem zz95{P:Prop}(h:P:=by
 go_in;go_wp2_with fail;go_quiet ((first|(exact zze (zbp _ _ _))));go_wp2;go_ret;exact⟨zO HR.out.symm,by first|exact⟨_,rfl⟩|(simp only [World.drewN_drewN];exact⟨_,rfl⟩)⟩):P:=h
abbrev zzP:=@List.mem_singleton
theorem zz96{P:Prop}(h:P:=by
 clear d1;by_cases h1:ks=0
 ·have t3 : (ks != 0) = false := by rw [h1]; rfl
  have HF4:Hid (F=zV s (zbo (x.segs.drop (k+1))++zbD (zbz u x).toNat)):=zzH (by
   rw [HF2.out,if_neg d,List.cons_append,zcO (by rw [HKS.out];exact h1)])
  clear h1 d HF2 HKS HKV HBO HCS HCV HK HA;generalize hsk:g.size.kind=sk at *;generalize hsn:g.size.n=sn at *;clear hsk hsn;go_wp2_with fail;refine(HCS2.out _ HB3.out).mono ?_;rintro e w2 ⟨rfl,hb2⟩;have HB4:=zzH (HB3.out.trans (hb2.mono HB3.out.size));clear hb2;go_wp2_with fail;exact⟨⟨k+1,hlt,by go_num,HF4,HB4⟩,by simp [intOf];omega⟩
 ·have t3 : (ks != 0) = true := by simpa using h1
  have HF4:Hid (R=ks):=zzH (by
   have e:F=ks:=by rw [HF2.out,if_neg d,List.cons_append,zc3 (by rw [HKS.out];exact h1),HKS.out]
   rw [HR.out,e,if_pos h1])
  clear h1 d HF2 HKS HKV HBO HCS HCV HK HA;generalize hsk:g.size.kind=sk at *;generalize hsn:g.size.n=sn at *;clear hsk hsn;go_wp2_with fail;refine(HCS2.out _ HB3.out).mono ?_;rintro e w2 ⟨rfl,hb2⟩;have HB4:=zzH (HB3.out.trans (hb2.mono HB3.out.size));clear hb2;go_wp2;go_ret;exact⟨zO HF4.out.symm,HB4.out⟩):P:=h
theorem zz97{P:Prop}(h:P:=by
 clear d1 d2;clear HRF HK HA HF3;go_wp2_with fail;go_quiet ((go_at_call 93;exact zze (zbp _ _ _)));go_wp2;go_ret;exact⟨zO HR2.out,zg HB3.out _⟩):P:=h
theorem zz99{P:Prop}(h:P:=by
 gi_wp2
 refine zzj (results_none rfl _ _ _) rfl ?_;exact⟨⟨_,rfl⟩,.inr ⟨_,trivial,hJx3⟩⟩):P:=h
theorem zz100{P:Prop}(h:P:=by
 gi_wp2
 refine zzj (results_none rfl _ _ _) rfl ?_;exact⟨⟨_,rfl⟩,.inr ⟨_,trivial,hJx5⟩⟩):P:=h
theorem zz98{P:Prop}(h:P:=by
 gi_wp2
 any_goals (exfalso;exact zig (by assumption))
 refine⟨fun _ h=>(by cases h),?_⟩;gi_wp2;refine zzj (results_none rfl _ _ _) rfl ?_;exact⟨⟨_,rfl⟩,.inr ⟨_,trivial,hJx3⟩⟩):P:=h
theorem zz101{P:Prop}(h:P:=by
 gi_wp2
 exact⟨KeepsFrom.refl _ _,KpT.refl _ _ _,⟨⟨v,hv,by rw [HR.out];exact hrow⟩,hL⟩,hB⟩):P:=h
theorem zz102{P:Prop}(h:P:=by
 clear HR h1 h2 h3 h13 n1 n2;go_in;go_wp2;go_ret;exact⟨zO HR2.out.symm,zzR _ _⟩):P:=h
theorem zz104{P:Prop}(h:P:=by
 clear hd;go_quiet (exact zze (HLM.out _));go_wp2_with fail;go_meet
 case rel=>exact⟨_,rfl,by rw [t0];rfl⟩):P:=h
theorem zz103{P:Prop}(h:P:=by
 go_wp2;go_ret2;refine⟨⟨Z,pc,rfl,?_,by rw [HR2.out];exact K2.out⟩,K1.out⟩;rw [HR1.out];exact⟨xo,xc,yo,yc,to',tc,HRR.out,⟨K3.out.x,K3.out.y,K3.out.t,K3.out.xl,K3.out.yl,K3.out.tl⟩⟩):P:=h
theorem zz105{P:Prop}(h:P:=by
 go_quiet (fail);go_wp2_with fail;go_meet
 case rel=>exact⟨by rw [E.out],zzH (zg (zzR _ _) _)⟩):P:=h
theorem zz106{P:Prop}(h:P:=by
 rintro e w' ⟨he,hw⟩;exact⟨he,by first|(obtain⟨q,rfl⟩:=hw;exact zg (zzR _ _) _)|(subst hw;exact zzR _ _)⟩):P:=h
theorem zz107{P:Prop}(h:P:=by
 obtain⟨a,b,rfl⟩:=zmo hl;obtain⟨y0,h0,_⟩:=hf 0 _ 3 0 1 rfl rfl rfl cI;obtain⟨y1,h1,_⟩:=hf 1 _ 3 1 1 rfl rfl rfl cI;obtain⟨n0,e0,i0⟩:=zbh Tryz.underlying3 h0;obtain⟨n1,e1,i1⟩:=zbh Tryz.underlying3 h1;obtain rfl:=zG e0;obtain rfl:=zG e1;exact⟨⟨n0,n1⟩,rfl,i0,i1⟩):P:=h
def I64 (z:Int):Prop:= -9223372036854775808<=z/\z<=9223372036854775807
instance (z:Int):Decidable (I64 z):=by unfold I64;infer_instance
theorem zi {a b:Bool} (h:a=b):Ending.returned (.bool a)= .returned (.bool b):=by rw [h]
theorem zcp {k:IntKind} {a b:Int} (h:a=b):Ending.returned (.int k a)= .returned (.int k b):=by rw [h]
theorem wrap_i64 (z:Int):I64 (wrap64 z):=by unfold I64 wrap64;omega
def hi (y:Int) (k:Nat):Int:= -y/2^k
inductive Tm where
 |mk (kind int gen:Int) (name func:ByteArray) (arity:Int) (items:List Tm) (bytes:ByteArray) (bits:Int)
namespace Tm
def kind:Tm->Int|.mk a _ _ _ _ _ _ _ _=>a
def int:Tm->Int|.mk _ a _ _ _ _ _ _ _=>a
def gen:Tm->Int|.mk _ _ a _ _ _ _ _ _=>a
def name:Tm->ByteArray|.mk _ _ _ a _ _ _ _ _=>a
def func:Tm->ByteArray|.mk _ _ _ _ a _ _ _ _=>a
def arity:Tm->Int|.mk _ _ _ _ _ a _ _ _=>a
def items:Tm->List Tm|.mk _ _ _ _ _ _ a _ _=>a
def bytes:Tm->ByteArray|.mk _ _ _ _ _ _ _ a _=>a
def bits:Tm->Int|.mk _ _ _ _ _ _ _ _ a=>a
def Ok (t:Tm):Prop:=I64 t.kind/\I64 t.int/\I64 t.gen/\t.name.size<=maxLen/\t.func.size<=maxLen/\I64 t.arity/\t.items.length<=maxLen/\t.bytes.size<=maxLen/\I64 t.bits
end Tm
structure RArg where
 kind:Int
 n:Int
structure RCase where
 lit:Int
 «to»:Int
structure RSeg where
 type:Int
 val:RArg
 size:RArg
 little:Bool
structure RIns where
 op:Int
 dst:RArg
 src:List RArg
 «to»:Int
 n:Int
 live:Int
 name:ByteArray
 cases:List RCase
 segs:List RSeg
structure RFunc where
 name:ByteArray
 arity:Int
 pub:Bool
 entry:Int
structure RFun where
 arity:Int
 free:Int
 entry:Int
structure RUnit where
 mdl:ByteArray
 vsn:Int
 lits:List Tm
 funcs:List RFunc
 funs:List RFun
 code:List RIns
abbrev zzt(t:Tm)(a:Option Addr)(b:Nat):Array Value:=#[.int .i64 t.kind,.int .i64 t.int,.int .i64 t.gen,.string t.name,.string t.func,.int .i64 t.arity,.slice a t.items.length b,.string t.bytes,.int .i64 t.bits]
abbrev zzi(x:RIns)(a:Option Addr)(b:Nat)(c:Option Addr)(d:Nat)(e:Option Addr)(f:Nat):Array Value:=#[.int .i64 x.op,.int .i64 x.dst.kind,.int .i64 x.dst.n,.slice a x.src.length b,.int .i64 x.to,.int .i64 x.n,.int .i64 x.live,.string x.name,.slice c x.cases.length d,.slice e x.segs.length f]
abbrev zzu(u:RUnit)(a:Option Addr)(b:Nat)(c:Option Addr)(d:Nat)(e:Option Addr)(f:Nat)(g:Option Addr)(h:Nat):Array Value:=#[.string u.mdl,.int .i64 u.vsn,.slice a u.lits.length b,.slice c u.funcs.length d,.slice e u.funs.length f,.slice g u.code.length h]
abbrev zzrUt(X:World)(B:Nat)(v:RUnit)(a0:Option Addr)(b0:Nat)(a1:Option Addr)(b1:Nat)(a2:Option Addr)(b2:Nat)(a3:Option Addr)(b3:Nat):Prop:=X.cell? ⟨B,0,none⟩=some (.string v.mdl)/\X.cell? ⟨B,1,none⟩=some (.int .i64 v.vsn)/\X.cell? ⟨B,2,none⟩=some (.slice a0 v.lits.length b0)/\X.cell? ⟨B,3,none⟩=some (.slice a1 v.funcs.length b1)/\X.cell? ⟨B,4,none⟩=some (.slice a2 v.funs.length b2)/\X.cell? ⟨B,5,none⟩=some (.slice a3 v.code.length b3)
def SlAt {α:Type} (w:World) (size:Nat) (R:List Value->α->Prop) (ao:Option Addr) (l:List α):Prop:=
 l= []\/ ∃b off,ao=some ⟨b,off,none⟩/\b<w.heap.size/\ ∀j (h:j<l.length),∃cs:List Value,cs.length=size/\(∀i,i<size->w.cell? ⟨b,off+j*size+i,none⟩=cs[i]?)/\R cs l[j]
theorem SlAt.mono {α:Type} {w w':World} {size:Nat} {R R':List Value->α->Prop} {ao:zzA} {l:List α} (h:SlAt w size R ao l) (hb:Below w.heap.size w w') (hR: ∀cs a,R cs a->R' cs a):SlAt w' size R' ao l:=by
 rcases h with h|⟨b,off,e,hB,hr⟩
 ·exact .inl h
 ·refine .inr ⟨b,off,e,zzW hB hb.size,fun j hj=>?_⟩
  obtain⟨cs,hl,hc,hR'⟩:=hr j hj;exact⟨cs,hl,fun i hi=>(hb.cell (p:=⟨b,off+j*size+i,none⟩) hB).trans (hc i hi),hR _ _ hR'⟩
theorem SlAt.row {α:Type} {w:World} {size:Nat} {R:List Value->α->Prop} {ao:zzA} {l:List α} (h:SlAt w size R ao l) {k:Nat} (hk:k<l.length):
  ∃b off,ao=some ⟨b,off,none⟩/\b<w.heap.size/\ ∀j (h:j<l.length),∃cs:List Value,cs.length=size/\(∀i,i<size->w.cell? ⟨b,off+j*size+i,none⟩=cs[i]?)/\R cs l[j]:=by
 rcases h with h|h
 ·exact zz1
 ·exact h
theorem SlAt.nil {α:Type} (w:World) (size:Nat) (R:List Value->α->Prop) (ao:zzA):SlAt w size R ao []:=.inl rfl
def TmAt (w:World):Nat->List Value->Tm->Prop
 |0,_,_=>False
 |f+1,cs,t=>(∃ao c,cs= [.int .i64 t.kind,.int .i64 t.int,.int .i64 t.gen,.string t.name,.string t.func,.int .i64 t.arity,.slice ao t.items.length c,.string t.bytes,.int .i64 t.bits]/\SlAt w 9 (TmAt w f) ao t.items)/\t.Ok
theorem TmAt.below {w w':World} (hb:Below w.heap.size w w'): ∀{f:Nat} {cs:List Value} {t:Tm},TmAt w f cs t->TmAt w' f cs t
 |0,_,_,h=>h
 |_+1,_,_,⟨⟨ao,c,e,hs⟩,ho⟩=>⟨⟨ao,c,e,hs.mono hb fun _ _ h=>TmAt.below hb h⟩,ho⟩
theorem SlAt.imp {α:Type} {w:World} {size:Nat} {R R':List Value->α->Prop} {ao:zzA} {l:List α} (h:SlAt w size R ao l) (hR: ∀cs a,R cs a->R' cs a):SlAt w size R' ao l:=
 h.elim .inl fun⟨b,off,e,hB,hr⟩=>.inr ⟨b,off,e,hB,fun j hj=>(hr j hj).elim fun cs ⟨a,b,c⟩=>⟨cs,a,b,hR _ _ c⟩⟩
theorem TmAt.succ {w:World}: ∀{f:Nat} {cs:List Value} {t:Tm},TmAt w f cs t->TmAt w (f+1) cs t
 |0,_,_,h=>h.elim
 |f+1,_,_,⟨⟨ao,c,e,hs⟩,ho⟩=>⟨⟨ao,c,e,hs.imp fun _ _ h=>TmAt.succ h⟩,ho⟩
theorem TmAt.le {w:World} {f g:Nat} (h:f<=g) {cs:List Value} {t:Tm} (ht:TmAt w f cs t):TmAt w g cs t:=by
 induction h with
 |refl=>exact ht
 |step _ ih=>exact ih.succ
def TmA (w:World) (cs:List Value) (t:Tm):Prop:= ∃f,TmAt w f cs t
theorem TmA.below {w w':World} {cs:List Value} {t:Tm} (h:TmA w cs t) (hb:Below w.heap.size w w'):TmA w' cs t:=h.elim fun f h=>⟨f,h.below hb⟩
theorem TmAt.ok {w:World}: ∀{f:Nat} {cs:List Value} {t:Tm},TmAt w f cs t->t.Ok
 |0,_,_,h=>h.elim
 |_+1,_,_,⟨_,ho⟩=>ho
def zcB (cs:List Value) (a:RArg):Prop:=cs= [.int .i64 a.kind,.int .i64 a.n]/\I64 a.kind/\I64 a.n
def zbP (cs:List Value) (a:RCase):Prop:=cs= [.int .i64 a.lit,.int .i64 a.to]/\I64 a.lit/\I64 a.to
def zcD (cs:List Value) (a:RSeg):Prop:=cs= [.int .i64 a.type,.int .i64 a.val.kind,.int .i64 a.val.n,.int .i64 a.size.kind,.int .i64 a.size.n,.bool a.little]/\I64 a.type/\I64 a.val.kind/\I64 a.val.n/\I64 a.size.kind/\I64 a.size.n
def zcl (cs:List Value) (a:RFunc):Prop:=cs= [.string a.name,.int .i64 a.arity,.bool a.pub,.int .i64 a.entry]/\a.name.size<=maxLen/\I64 a.arity/\I64 a.entry
def zbB (cs:List Value) (a:RFun):Prop:=cs= [.int .i64 a.arity,.int .i64 a.free,.int .i64 a.entry]/\I64 a.arity/\I64 a.free/\I64 a.entry
def InsR (w:World) (cs:List Value) (x:RIns):Prop:=
 (∃so sc co cc go gc,cs= [.int .i64 x.op,.int .i64 x.dst.kind,.int .i64 x.dst.n,.slice so x.src.length sc,.int .i64 x.to,.int .i64 x.n,.int .i64 x.live,.string x.name,.slice co x.cases.length cc,.slice go x.segs.length gc] /\
  SlAt w 2 zcB so x.src/\SlAt w 2 zbP co x.cases/\SlAt w 6 zcD go x.segs) /\
 I64 x.op/\I64 x.dst.kind/\I64 x.dst.n/\x.src.length<=maxLen/\I64 x.to/\I64 x.n/\I64 x.live/\x.name.size<=maxLen/\x.cases.length<=maxLen/\x.segs.length<=maxLen
theorem InsR.below {w w':World} {cs:List Value} {x:RIns} (h:InsR w cs x) (hb:Below w.heap.size w w'):InsR w' cs x:=by
 obtain⟨⟨so,sc,co,cc,go,gc,e,h1,h2,h3⟩,hr⟩:=h;exact⟨⟨so,sc,co,cc,go,gc,e,h1.mono hb fun _ _ h=>h,h2.mono hb fun _ _ h=>h,h3.mono hb fun _ _ h=>h⟩,hr⟩
def UR (w:World) (cs:List Value) (u:RUnit):Prop:=
 (∃lo lc fo fc go gc co cc,cs= [.string u.mdl,.int .i64 u.vsn,.slice lo u.lits.length lc,.slice fo u.funcs.length fc,.slice go u.funs.length gc,.slice co u.code.length cc] /\
  SlAt w 9 (TmA w) lo u.lits/\SlAt w 4 zcl fo u.funcs/\SlAt w 3 zbB go u.funs/\SlAt w 10 (InsR w) co u.code) /\
 u.mdl.size<=maxLen/\I64 u.vsn/\u.lits.length<=maxLen/\u.funcs.length<=maxLen/\u.funs.length<=maxLen/\u.code.length<=maxLen
theorem UR.below {w w':World} {cs:List Value} {u:RUnit} (h:UR w cs u) (hb:Below w.heap.size w w'):UR w' cs u:=by
 obtain⟨⟨lo,lc,fo,fc,go,gc,co,cc,e,h1,h2,h3,h4⟩,hr⟩:=h;exact⟨⟨lo,lc,fo,fc,go,gc,co,cc,e,h1.mono hb fun _ _ h=>h.below hb,h2.mono hb fun _ _ h=>h,h3.mono hb fun _ _ h=>h,h4.mono hb fun _ _ h=>h.below hb⟩,hr⟩
section
variable {H:Type} {enc:TypeId × Value->H} {P:Program} {w:World} {base:Nat} {spare:Nat->Bool} {held:Bool}
theorem zlO {n:Int} (h:(Lit.int .i64 n).wf=true):I64 n:=by
 simp [Lit.wf,IntKind.min,IntKind.max,IntKind.bits,IntKind.signed]at h;unfold I64;omega
theorem zbh {t:TypeId} {fuel:Nat} {cs:List Value} {x:DataW H × List MemPlace} (ht:P.underlying t=some (.int .i64)) (h:DataW.trod enc P w base spare held fuel t cs=some x): ∃n,cs= [.int .i64 n]/\I64 n:=by
 obtain⟨n,e,_,hw⟩:=DataW.trod_int ht h;exact⟨n,e,zlO hw⟩
theorem zdl {t:TypeId} {fuel:Nat} {cs:List Value} {x:DataW H × List MemPlace} (ht:P.underlying t=some .string) (h:DataW.trod enc P w base spare held fuel t cs=some x): ∃s,cs= [.string s]/\s.size<=maxLen:=by
 obtain⟨n,e,_,hw⟩:=DataW.trod_string ht h;exact⟨n,e,hw⟩
end
def zbO (rec:List Tm->Int->Int):List Tm->Int->Int
 |[],m=>m
 |t::l,m=>if m<0 then m else
  if m<t.name.size\/m<t.func.size\/m<t.bytes.size then -1 else
   zbO rec l (rec t.items (m-1-t.name.size/8-t.func.size/8-t.bytes.size/8))
def zbd:Nat->List Tm->Int->Int
 |0,_,m=>m
 |f+1,l,m=>zbO (zbd f) l m
theorem zeC {rec:List Tm->Int->Int} (h: ∀l m,-1<=m-> -1<=rec l m/\rec l m<=m): ∀(l:List Tm) (m:Int),-1<=m-> -1<=zbO rec l m/\zbO rec l m<=m
 |[],m,hm=>⟨hm,Int.le_refl _⟩
 |t::l,m,hm=>by
  unfold zbO;split
  ·exact⟨hm,Int.le_refl _⟩
  ·split
   ·omega
   ·have h1:=h t.items (m-1-t.name.size/8-t.func.size/8-t.bytes.size/8) (by omega)
    have:=zeC h l _ h1.1;omega
theorem zdj: ∀(f:Nat) (l:List Tm) (m:Int),-1<=m-> -1<=zbd f l m/\zbd f l m<=m
 |0,_,_,hm=>⟨hm,Int.le_refl _⟩
 |f+1,l,m,hm=>zeC (zdj f) l m hm
theorem zeS {rec:List Tm->Int->Int} {l:List Tm} {m:Int} (h:l= []\/m<0):zbO rec l m=m:=by
 rcases h with rfl|h
 ·rfl
 ·cases l with
  |nil=>rfl
  |cons t l=>unfold zbO;rw [if_pos h]
theorem zcx {α:Type} {l:List α} {k:Nat} (h:k<l.length):l.drop k=l[k]::l.drop (k+1):=List.drop_eq_getElem_cons h
theorem zh4 {rec:List Tm->Int->Int} {l:List Tm} {k:Nat} (h:k<l.length) {m:Int} (h0:0<=m) (hl:m<l[k].name.size\/m<l[k].func.size\/m<l[k].bytes.size):zbO rec (l.drop k) m= -1:=by
 rw [zcx h,zbO,if_neg (by omega),if_pos hl]
theorem zhR {rec:List Tm->Int->Int} {l:List Tm} {k:Nat} (h:k<l.length) {m:Int} (h0:0<=m) (hl: ¬(m<l[k].name.size\/m<l[k].func.size\/m<l[k].bytes.size)):
  zbO rec (l.drop k) m=zbO rec (l.drop (k+1)) (rec l[k].items (m-1-l[k].name.size/8-l[k].func.size/8-l[k].bytes.size/8)):=by
 rw [zcx h,zbO,if_neg (by omega),if_neg hl]
def zbI (op:Int):Bool:=decide (op∈([2,3,4,14,15,16,17,18,19,20,21,22,23,27,35,36]:List Int))
section
variable {w:World} {ao:Option Addr} {k:Nat}
theorem SlAt.tm {f:Nat} {l:List Tm} (h:SlAt w 9 (TmAt w (f+1)) ao l) (hk:k<l.length):
  ∃b off ai c,ao=some ⟨b,off,none⟩/\b<w.heap.size/\w.cell? ⟨b,off+k*9,none⟩=some (.int .i64 l[k].kind)/\w.cell? ⟨b,off+k*9+1,none⟩=some (.int .i64 l[k].int) /\
   w.cell? ⟨b,off+k*9+2,none⟩=some (.int .i64 l[k].gen)/\w.cell? ⟨b,off+k*9+3,none⟩=some (.string l[k].name)/\w.cell? ⟨b,off+k*9+4,none⟩=some (.string l[k].func) /\
   w.cell? ⟨b,off+k*9+5,none⟩=some (.int .i64 l[k].arity)/\w.cell? ⟨b,off+k*9+6,none⟩=some (.slice ai l[k].items.length c)/\w.cell? ⟨b,off+k*9+7,none⟩=some (.string l[k].bytes) /\
   w.cell? ⟨b,off+k*9+8,none⟩=some (.int .i64 l[k].bits)/\SlAt w 9 (TmAt w f) ai l[k].items/\l[k].Ok:=by
 obtain⟨b,off,e,hb,hr⟩:=h.row hk;obtain⟨cs,_,hc,⟨ai,c,rfl,hs⟩,ho⟩:=hr k hk;exact⟨b,off,ai,c,e,hb,hc 0 (by decide),hc 1 (by decide),hc 2 (by decide),hc 3 (by decide),hc 4 (by decide),hc 5 (by decide),hc 6 (by decide),hc 7 (by decide),hc 8 (by decide),hs,ho⟩
theorem SlAt.arg {l:List RArg} (h:SlAt w 2 zcB ao l) (hk:k<l.length):
  ∃b off,ao=some ⟨b,off,none⟩/\b<w.heap.size/\w.cell? ⟨b,off+k*2,none⟩=some (.int .i64 l[k].kind)/\w.cell? ⟨b,off+k*2+1,none⟩=some (.int .i64 l[k].n)/\I64 l[k].kind/\I64 l[k].n:=by
 obtain⟨b,off,e,hb,hr⟩:=h.row hk;obtain⟨cs,_,hc,rfl,h1,h2⟩:=hr k hk;exact⟨b,off,e,hb,hc 0 (by decide),hc 1 (by decide),h1,h2⟩
theorem SlAt.case {l:List RCase} (h:SlAt w 2 zbP ao l) (hk:k<l.length):
  ∃b off,ao=some ⟨b,off,none⟩/\b<w.heap.size/\w.cell? ⟨b,off+k*2,none⟩=some (.int .i64 l[k].lit)/\w.cell? ⟨b,off+k*2+1,none⟩=some (.int .i64 l[k].to)/\I64 l[k].lit/\I64 l[k].to:=by
 obtain⟨b,off,e,hb,hr⟩:=h.row hk;obtain⟨cs,_,hc,rfl,h1,h2⟩:=hr k hk;exact⟨b,off,e,hb,hc 0 (by decide),hc 1 (by decide),h1,h2⟩
theorem SlAt.seg {l:List RSeg} (h:SlAt w 6 zcD ao l) (hk:k<l.length):
  ∃b off,ao=some ⟨b,off,none⟩/\b<w.heap.size/\w.cell? ⟨b,off+k*6,none⟩=some (.int .i64 l[k].type)/\w.cell? ⟨b,off+k*6+1,none⟩=some (.int .i64 l[k].val.kind)/\w.cell? ⟨b,off+k*6+2,none⟩=some (.int .i64 l[k].val.n) /\
   w.cell? ⟨b,off+k*6+3,none⟩=some (.int .i64 l[k].size.kind)/\w.cell? ⟨b,off+k*6+4,none⟩=some (.int .i64 l[k].size.n)/\w.cell? ⟨b,off+k*6+5,none⟩=some (.bool l[k].little) /\
   I64 l[k].type/\I64 l[k].val.kind/\I64 l[k].val.n/\I64 l[k].size.kind/\I64 l[k].size.n:=by
 obtain⟨b,off,e,hb,hr⟩:=h.row hk;obtain⟨cs,_,hc,rfl,h1⟩:=hr k hk;exact⟨b,off,e,hb,hc 0 (by decide),hc 1 (by decide),hc 2 (by decide),hc 3 (by decide),hc 4 (by decide),hc 5 (by decide),h1⟩
theorem SlAt.func {l:List RFunc} (h:SlAt w 4 zcl ao l) (hk:k<l.length):
  ∃b off,ao=some ⟨b,off,none⟩/\b<w.heap.size/\w.cell? ⟨b,off+k*4,none⟩=some (.string l[k].name)/\w.cell? ⟨b,off+k*4+1,none⟩=some (.int .i64 l[k].arity)/\w.cell? ⟨b,off+k*4+2,none⟩=some (.bool l[k].pub) /\
   w.cell? ⟨b,off+k*4+3,none⟩=some (.int .i64 l[k].entry)/\l[k].name.size<=maxLen/\I64 l[k].arity/\I64 l[k].entry:=by
 obtain⟨b,off,e,hb,hr⟩:=h.row hk;obtain⟨cs,_,hc,rfl,h1⟩:=hr k hk;exact⟨b,off,e,hb,hc 0 (by decide),hc 1 (by decide),hc 2 (by decide),hc 3 (by decide),h1⟩
theorem SlAt.fn {l:List RFun} (h:SlAt w 3 zbB ao l) (hk:k<l.length):
  ∃b off,ao=some ⟨b,off,none⟩/\b<w.heap.size/\w.cell? ⟨b,off+k*3,none⟩=some (.int .i64 l[k].arity)/\w.cell? ⟨b,off+k*3+1,none⟩=some (.int .i64 l[k].free)/\w.cell? ⟨b,off+k*3+2,none⟩=some (.int .i64 l[k].entry) /\
   I64 l[k].arity/\I64 l[k].free/\I64 l[k].entry:=by
 obtain⟨b,off,e,hb,hr⟩:=h.row hk;obtain⟨cs,_,hc,rfl,h1⟩:=hr k hk;exact⟨b,off,e,hb,hc 0 (by decide),hc 1 (by decide),hc 2 (by decide),h1⟩
theorem SlAt.ins {l:List RIns} (h:SlAt w 10 (InsR w) ao l) (hk:k<l.length):
  ∃b off so sc co cc go gc,ao=some ⟨b,off,none⟩/\b<w.heap.size/\w.cell? ⟨b,off+k*10,none⟩=some (.int .i64 l[k].op)/\w.cell? ⟨b,off+k*10+1,none⟩=some (.int .i64 l[k].dst.kind)/\w.cell? ⟨b,off+k*10+2,none⟩=some (.int .i64 l[k].dst.n) /\
   w.cell? ⟨b,off+k*10+3,none⟩=some (.slice so l[k].src.length sc)/\w.cell? ⟨b,off+k*10+4,none⟩=some (.int .i64 l[k].to)/\w.cell? ⟨b,off+k*10+5,none⟩=some (.int .i64 l[k].n)/\w.cell? ⟨b,off+k*10+6,none⟩=some (.int .i64 l[k].live) /\
   w.cell? ⟨b,off+k*10+7,none⟩=some (.string l[k].name)/\w.cell? ⟨b,off+k*10+8,none⟩=some (.slice co l[k].cases.length cc)/\w.cell? ⟨b,off+k*10+9,none⟩=some (.slice go l[k].segs.length gc) /\
   SlAt w 2 zcB so l[k].src/\SlAt w 2 zbP co l[k].cases/\SlAt w 6 zcD go l[k].segs /\
   I64 l[k].op/\I64 l[k].dst.kind/\I64 l[k].dst.n/\l[k].src.length<=maxLen/\I64 l[k].to/\I64 l[k].n/\I64 l[k].live/\l[k].name.size<=maxLen/\l[k].cases.length<=maxLen/\l[k].segs.length<=maxLen:=by
 obtain⟨b,off,e,hb,hr⟩:=h.row hk;obtain⟨cs,_,hc,⟨so,sc,co,cc,go,gc,rfl,s1,s2,s3⟩,h1⟩:=hr k hk;exact⟨b,off,so,sc,co,cc,go,gc,e,hb,hc 0 (by decide),hc 1 (by decide),hc 2 (by decide),hc 3 (by decide),hc 4 (by decide),hc 5 (by decide),hc 6 (by decide),hc 7 (by decide),hc 8 (by decide),hc 9 (by decide),s1,s2,s3,h1⟩
end
theorem zd {w a b:World} (h:Below w.heap.size w a) (k:Below a.heap.size a b):Below w.heap.size w b:=h.trans (k.mono h.size)
theorem zg {B:Nat} {a w:World} (h:Below B a w) (n:Nat):Below B a (w.drewN n):=⟨h.os,h.tape,h.output,h.size,h.block⟩
theorem SlAt.zero {w:World} {ao:zzA} {l:List Tm} (h:SlAt w 9 (TmAt w 0) ao l):l= []:=by
 rcases h with h|⟨b,off,e,hb,hr⟩
 ·exact h
 ·cases l with
  |nil=>rfl
  |cons t l=>
   obtain⟨cs,_,_,hf⟩:=hr 0 (by simp);exact hf.elim
theorem SlAt.tms {w w':World} {f:Nat} {ao:zzA} {l:List Tm} (h:SlAt w 9 (TmAt w f) ao l) (hb:Below w.heap.size w w'):SlAt w' 9 (TmAt w' f) ao l:=h.mono hb fun _ _ h=>h.below hb
theorem zdX {w:World} {ao:zzA} {l:List Tm} (h:SlAt w 9 (TmA w) ao l): ∃f,SlAt w 9 (TmAt w f) ao l:=by
 rcases h with h|⟨b,off,e,hb,hr⟩
 ·exact⟨0,.inl h⟩
 ·have: ∀m,m<=l.length-> ∃f,∀j (hj:j<l.length),j<m-> ∃cs:List Value,cs.length=9/\(∀i,i<9->w.cell? ⟨b,off+j*9+i,none⟩=cs[i]?)/\TmAt w f cs l[j]:=by
   intro m
   induction m with
   |zero=>exact fun _=>⟨0,fun j _ h=>absurd h (zzC _)⟩
   |succ m ih=>
    intro hm;obtain⟨f,hf⟩:=ih (by omega);obtain⟨cs,h1,h2,g,h3⟩:=hr m (by omega);refine⟨max f g,fun j hj hjm=>?_⟩;by_cases e:j=m
    ·subst e;exact⟨cs,h1,h2,TmAt.le (Nat.le_max_right _ _) h3⟩
    ·obtain⟨cs',a1,a2,a3⟩:=hf j hj (by omega)
     exact⟨cs',a1,a2,TmAt.le (Nat.le_max_left _ _) a3⟩
  obtain⟨f,hf⟩:=this l.length (zzL _);exact⟨f,.inr ⟨b,off,e,hb,fun j hj=>hf j hj hj⟩⟩
structure UP (w:World) (u:RUnit) (lo fo go co:Option Addr):Prop where
 lits:SlAt w 9 (TmA w) lo u.lits
 funcs:SlAt w 4 zcl fo u.funcs
 funs:SlAt w 3 zbB go u.funs
 code:SlAt w 10 (InsR w) co u.code
 mdlLen:u.mdl.size<=9223372036854775807
 vsn:I64 u.vsn
 litsLen:u.lits.length<=9223372036854775807
 funcsLen:u.funcs.length<=9223372036854775807
 funsLen:u.funs.length<=9223372036854775807
 codeLen:u.code.length<=9223372036854775807
theorem UP.below {w w':World} {u:RUnit} {lo fo go co:zzA} (h:UP w u lo fo go co) (hb:Below w.heap.size w w'):UP w' u lo fo go co:=
 ⟨h.lits.mono hb fun _ _ h=>h.below hb,h.funcs.mono hb fun _ _ h=>h,h.funs.mono hb fun _ _ h=>h,h.code.mono hb fun _ _ h=>h.below hb,h.mdlLen,h.vsn,h.litsLen,h.funcsLen,h.funsLen,h.codeLen⟩
structure UBox (w:World) (B:Nat) (u:RUnit) (lo fo go co:Option Addr) (lc fc gc cc:Nat):Prop where
 box:w.heap[B]?=some (.cells #[.string u.mdl,.int .i64 u.vsn,.slice lo u.lits.length lc,.slice fo u.funcs.length fc,.slice go u.funs.length gc,.slice co u.code.length cc] 27 (0,0))
theorem zb {w:World} {C:Nat} {o:Obj} (h:w.heap[C]?=some o):C<w.heap.size:=(Array.getElem?_eq_some_iff.1 h).1
section
variable {w:World} {B:Nat} {u:RUnit} {lo fo go co:Option Addr} {lc fc gc cc:Nat}
theorem UBox.lt (h:UBox w B u lo fo go co lc fc gc cc):B<w.heap.size:=zb h.box
theorem UBox.below {w':World} (h:UBox w B u lo fo go co lc fc gc cc) (hb:Below w.heap.size w w'):UBox w' B u lo fo go co lc fc gc cc:=⟨(hb.block B h.lt).trans h.box⟩
theorem UBox.c0 (h:UBox w B u lo fo go co lc fc gc cc):w.cell? ⟨B,0,none⟩=some (.string u.mdl):=by rw [zzq0 _ _ _ _ _ _ h.box];rfl
theorem UBox.c1 (h:UBox w B u lo fo go co lc fc gc cc):w.cell? ⟨B,1,none⟩=some (.int .i64 u.vsn):=by rw [zzq0 _ _ _ _ _ _ h.box];rfl
theorem UBox.c2 (h:UBox w B u lo fo go co lc fc gc cc):w.cell? ⟨B,2,none⟩=some (.slice lo u.lits.length lc):=by rw [zzq0 _ _ _ _ _ _ h.box];rfl
theorem UBox.c3 (h:UBox w B u lo fo go co lc fc gc cc):w.cell? ⟨B,3,none⟩=some (.slice fo u.funcs.length fc):=by rw [zzq0 _ _ _ _ _ _ h.box];rfl
theorem UBox.c4 (h:UBox w B u lo fo go co lc fc gc cc):w.cell? ⟨B,4,none⟩=some (.slice go u.funs.length gc):=by rw [zzq0 _ _ _ _ _ _ h.box];rfl
theorem UBox.c5 (h:UBox w B u lo fo go co lc fc gc cc):w.cell? ⟨B,5,none⟩=some (.slice co u.code.length cc):=by rw [zzq0 _ _ _ _ _ _ h.box];rfl
end
theorem zeJ (w:World) (u:RUnit) (lo fo go co:zzA) (lc fc gc cc:Nat):UBox (w.alloc (.cells #[.string u.mdl,.int .i64 u.vsn,.slice lo u.lits.length lc,.slice fo u.funcs.length fc,.slice go u.funs.length gc,.slice co u.code.length cc] 27)) w.heap.size u lo fo go co lc fc gc cc:=⟨zzF _ _⟩
open Go.Shelf
def Tryz.lays106_ren:Go.Shelf.Ren:=⟨fun|106=>183|213=>225|265=>239|n=>n,fun|9=>9|3=>3|n=>n,fun|n=>n⟩
theorem Tryz.lays106:Go.Proofs.Lays.n106 Tryz.prog Tryz.lays106_ren:={
 mixed:=by kernel_rfl
 f106:=Tryz.func183.trans (congrArg some (by kernel_rfl))
 f213:=Tryz.func225.trans (congrArg some (by kernel_rfl))
 f265:=Tryz.func239.trans (congrArg some (by kernel_rfl))
 t3:=Tryz.underlying3
 a3:=Tryz.isAgg3
 z3:=Tryz.sizeOf3
 v3:=Tryz.zeroValue3
 t9:=Tryz.underlying9
 a9:=Tryz.isAgg9
 z9:=Tryz.sizeOf9
 v9:=Tryz.zeroValue9}
open Go.RowKit in
theorem Tryz.strings_Compare (a b:ByteArray) (w:World):
  Calls Tryz.prog 183 #[.string a,.string b] w fun e w'=>e= .returned (.int .i64 (Lib.compareBytes a.data.toList b.data.toList))/\w'=w:=Any.strings_Compare Tryz.lays106 a b w
def Tryz.lays122_ren:Go.Shelf.Ren:=⟨fun|122=>178|215=>222|n=>n,fun|3=>3|4=>4|n=>n,fun|n=>n⟩
theorem Tryz.lays122:Go.Proofs.Lays.n122 Tryz.prog Tryz.lays122_ren:={
 mixed:=by kernel_rfl
 f122:=Tryz.func178.trans (congrArg some (by kernel_rfl))
 f215:=Tryz.func222.trans (congrArg some (by kernel_rfl))
 t3:=Tryz.underlying3
 a3:=Tryz.isAgg3
 z3:=Tryz.sizeOf3
 v3:=Tryz.zeroValue3
 t4:=Tryz.underlying4
 a4:=Tryz.isAgg4
 z4:=Tryz.sizeOf4
 v4:=Tryz.zeroValue4}
open Go.RowKit in
theorem Tryz.cmp_Compare_int (x y:Int) (w:World):
  Calls Tryz.prog 178 #[.int .i64 x,.int .i64 y] w fun e w'=>e= .returned (.int .i64 (Lib.compareInt x y))/\w'=w:=Any.cmp_Compare_int Tryz.lays122 x y w
def Tryz.lays144_ren:Go.Shelf.Ren:=⟨fun|144=>124|143=>156|219=>175|217=>217|225=>218|224=>219|267=>220|266=>234|314=>235|n=>n,fun|9=>9|4=>4|3=>3|5=>5|46=>218|146=>268|51=>243|n=>n,fun|1=>2|n=>n⟩
theorem Tryz.lays144:Go.Proofs.Lays.n144 Tryz.prog Tryz.lays144_ren:={
 mixed:=by kernel_rfl
 f143:=Tryz.func156.trans (congrArg some (by kernel_rfl))
 f144:=Tryz.func124.trans (congrArg some (by kernel_rfl))
 f217:=Tryz.func217.trans (congrArg some (by kernel_rfl))
 f219:=Tryz.func175.trans (congrArg some (by kernel_rfl))
 f224:=Tryz.func219.trans (congrArg some (by kernel_rfl))
 f225:=Tryz.func218.trans (congrArg some (by kernel_rfl))
 f266:=Tryz.func234.trans (congrArg some (by kernel_rfl))
 f267:=Tryz.func220.trans (congrArg some (by kernel_rfl))
 f314:=Tryz.func235.trans (congrArg some (by kernel_rfl))
 t3:=Tryz.underlying3
 a3:=Tryz.isAgg3
 z3:=Tryz.sizeOf3
 v3:=Tryz.zeroValue3
 t4:=Tryz.underlying4
 a4:=Tryz.isAgg4
 z4:=Tryz.sizeOf4
 v4:=Tryz.zeroValue4
 t5:=Tryz.underlying5
 a5:=Tryz.isAgg5
 z5:=Tryz.sizeOf5
 v5:=Tryz.zeroValue5
 t9:=Tryz.underlying9
 a9:=Tryz.isAgg9
 z9:=Tryz.sizeOf9
 v9:=Tryz.zeroValue9
 t46:=Tryz.underlying218
 a46:=Tryz.isAgg218
 z46:=Tryz.sizeOf218
 v46:=Tryz.zeroValue218
 t51:=Tryz.underlying243
 a51:=Tryz.isAgg243
 z51:=Tryz.sizeOf243
 v51:=Tryz.zeroValue243
 t146:=Tryz.underlying268
 a146:=Tryz.isAgg268
 z146:=Tryz.sizeOf268
 v146:=Tryz.zeroValue268
 g1:=by kernel_rfl}
open Go.RowKit Go.Lib in
theorem Tryz.strings_Contains_one (s:ByteArray) (c:UInt8) (w:World):
  Calls Tryz.prog 124 #[.string s,.string ⟨#[c]⟩] w fun e w'=>e= .returned (.bool (decide (0<=Lib.indexByte s.data.toList c)))/\w'=w:=Any.strings_Contains_one Tryz.lays144 s c w
def Tryz.lays189_ren:Go.Shelf.Ren:=⟨fun|189=>140|125=>163|257=>162|128=>194|129=>195|294=>185|295=>186|296=>187|297=>188|298=>189|299=>190|216=>191|300=>192|301=>193|328=>227|329=>228|330=>229|331=>230|332=>231|215=>222|343=>240|n=>n,fun|28=>38|3=>3|46=>218|0=>0|51=>243|53=>213|4=>4|183=>236|182=>235|131=>67|5=>5|9=>9|218=>260|222=>264|228=>282|229=>283|n=>n,fun|n=>n⟩
theorem Tryz.lays189:Go.Proofs.Lays.n189 Tryz.prog Tryz.lays189_ren:={
 mixed:=by kernel_rfl
 f125:=Tryz.func163.trans (congrArg some (by kernel_rfl))
 f128:=Tryz.func194.trans (congrArg some (by kernel_rfl))
 f129:=Tryz.func195.trans (congrArg some (by kernel_rfl))
 f189:=Tryz.func140.trans (congrArg some (by kernel_rfl))
 f215:=Tryz.func222.trans (congrArg some (by kernel_rfl))
 f216:=Tryz.func191.trans (congrArg some (by kernel_rfl))
 f257:=Tryz.func162.trans (congrArg some (by kernel_rfl))
 f294:=Tryz.func185.trans (congrArg some (by kernel_rfl))
 f295:=Tryz.func186.trans (congrArg some (by kernel_rfl))
 f296:=Tryz.func187.trans (congrArg some (by kernel_rfl))
 f297:=Tryz.func188.trans (congrArg some (by kernel_rfl))
 f298:=Tryz.func189.trans (congrArg some (by kernel_rfl))
 f299:=Tryz.func190.trans (congrArg some (by kernel_rfl))
 f300:=Tryz.func192.trans (congrArg some (by kernel_rfl))
 f301:=Tryz.func193.trans (congrArg some (by kernel_rfl))
 f328:=Tryz.func227.trans (congrArg some (by kernel_rfl))
 f329:=Tryz.func228.trans (congrArg some (by kernel_rfl))
 f330:=Tryz.func229.trans (congrArg some (by kernel_rfl))
 f331:=Tryz.func230.trans (congrArg some (by kernel_rfl))
 f332:=Tryz.func231.trans (congrArg some (by kernel_rfl))
 f343:=Tryz.func240.trans (congrArg some (by kernel_rfl))
 t0:=Tryz.underlying0
 a0:=Tryz.isAgg0
 z0:=Tryz.sizeOf0
 v0:=Tryz.zeroValue0
 t3:=Tryz.underlying3
 a3:=Tryz.isAgg3
 z3:=Tryz.sizeOf3
 v3:=Tryz.zeroValue3
 t4:=Tryz.underlying4
 a4:=Tryz.isAgg4
 z4:=Tryz.sizeOf4
 v4:=Tryz.zeroValue4
 t5:=Tryz.underlying5
 a5:=Tryz.isAgg5
 z5:=Tryz.sizeOf5
 v5:=Tryz.zeroValue5
 t9:=Tryz.underlying9
 a9:=Tryz.isAgg9
 z9:=Tryz.sizeOf9
 v9:=Tryz.zeroValue9
 t28:=Tryz.underlying38
 a28:=Tryz.isAgg38
 z28:=Tryz.sizeOf38
 v28:=Tryz.zeroValue38
 t46:=Tryz.underlying218
 a46:=Tryz.isAgg218
 z46:=Tryz.sizeOf218
 v46:=Tryz.zeroValue218
 t51:=Tryz.underlying243
 a51:=Tryz.isAgg243
 z51:=Tryz.sizeOf243
 v51:=Tryz.zeroValue243
 t53:=Tryz.underlying213
 a53:=Tryz.isAgg213
 z53:=Tryz.sizeOf213
 v53:=Tryz.zeroValue213
 t131:=Tryz.underlying67
 a131:=Tryz.isAgg67
 z131:=Tryz.sizeOf67
 v131:=Tryz.zeroValue67
 t182:=Tryz.underlying235
 a182:=Tryz.isAgg235
 z182:=Tryz.sizeOf235
 v182:=Tryz.zeroValue235
 t183:=Tryz.underlying236
 a183:=Tryz.isAgg236
 z183:=Tryz.sizeOf236
 v183:=Tryz.zeroValue236
 t218:=Tryz.underlying260
 a218:=Tryz.isAgg260
 z218:=Tryz.sizeOf260
 v218:=Tryz.zeroValue260
 t222:=Tryz.underlying264
 a222:=Tryz.isAgg264
 z222:=Tryz.sizeOf264
 v222:=Tryz.zeroValue264
 t228:=Tryz.underlying282
 a228:=Tryz.isAgg282
 z228:=Tryz.sizeOf282
 v228:=Tryz.zeroValue282
 t229:=Tryz.underlying283
 a229:=Tryz.isAgg283
 z229:=Tryz.sizeOf283
 v229:=Tryz.zeroValue283}
open Go.Sort Go.RowKit in
theorem Tryz.slices_Sort_int (blk off cap:Nat) (zs:List Int) (w:World) (hH:Holds (Value.int .i64) w blk off zs.toArray) (hblk:blk<w.heap.size) (hsz:zs.length<4611686018427387904):
  Calls Tryz.prog 140 #[.slice (some ⟨blk,off,none⟩) zs.length cap] w fun e w'=>
   e= .returned (.tuple #[])/\ ∃n os,w'=grow (putRow (Value.int .i64) (Sort.ahead w n) blk off (zs.mergeSort fun x y=>decide (x<=y)).toArray) os:=Any.slices_Sort_int Tryz.lays189 blk off cap zs w hH hblk hsz
def Tryz.lays157_ren:Go.Shelf.Ren:=⟨fun|157=>158|229=>176|199=>177|261=>221|311=>236|312=>237|n=>n,fun|9=>9|31=>209|3=>3|5=>5|4=>4|119=>230|0=>0|40=>232|152=>252|21=>21|154=>254|51=>243|141=>256|196=>273|193=>270|198=>276|49=>274|194=>271|201=>279|226=>285|46=>218|227=>286|n=>n,fun|0=>1|6=>3|n=>n⟩
theorem Tryz.lays157:Go.Proofs.Lays.n157 Tryz.prog Tryz.lays157_ren:={
 mixed:=by kernel_rfl
 f157:=Tryz.func158.trans (congrArg some (by kernel_rfl))
 f199:=Tryz.func177.trans (congrArg some (by kernel_rfl))
 f229:=Tryz.func176.trans (congrArg some (by kernel_rfl))
 f261:=Tryz.func221.trans (congrArg some (by kernel_rfl))
 f311:=Tryz.func236.trans (congrArg some (by kernel_rfl))
 f312:=Tryz.func237.trans (congrArg some (by kernel_rfl))
 t0:=Tryz.underlying0
 a0:=Tryz.isAgg0
 z0:=Tryz.sizeOf0
 v0:=Tryz.zeroValue0
 t3:=Tryz.underlying3
 a3:=Tryz.isAgg3
 z3:=Tryz.sizeOf3
 v3:=Tryz.zeroValue3
 t4:=Tryz.underlying4
 a4:=Tryz.isAgg4
 z4:=Tryz.sizeOf4
 v4:=Tryz.zeroValue4
 t5:=Tryz.underlying5
 a5:=Tryz.isAgg5
 z5:=Tryz.sizeOf5
 v5:=Tryz.zeroValue5
 t9:=Tryz.underlying9
 a9:=Tryz.isAgg9
 z9:=Tryz.sizeOf9
 v9:=Tryz.zeroValue9
 t21:=Tryz.underlying21
 a21:=Tryz.isAgg21
 z21:=Tryz.sizeOf21
 v21:=Tryz.zeroValue21
 t31:=Tryz.underlying209
 a31:=Tryz.isAgg209
 z31:=Tryz.sizeOf209
 v31:=Tryz.zeroValue209
 t40:=Tryz.underlying232
 a40:=Tryz.isAgg232
 z40:=Tryz.sizeOf232
 v40:=Tryz.zeroValue232
 t46:=Tryz.underlying218
 a46:=Tryz.isAgg218
 z46:=Tryz.sizeOf218
 v46:=Tryz.zeroValue218
 t49:=Tryz.underlying274
 a49:=Tryz.isAgg274
 z49:=Tryz.sizeOf274
 v49:=Tryz.zeroValue274
 t51:=Tryz.underlying243
 a51:=Tryz.isAgg243
 z51:=Tryz.sizeOf243
 v51:=Tryz.zeroValue243
 t119:=Tryz.underlying230
 a119:=Tryz.isAgg230
 z119:=Tryz.sizeOf230
 t141:=Tryz.underlying256
 a141:=Tryz.isAgg256
 z141:=Tryz.sizeOf256
 v141:=Tryz.zeroValue256
 t152:=Tryz.underlying252
 a152:=Tryz.isAgg252
 z152:=Tryz.sizeOf252
 v152:=Tryz.zeroValue252
 t154:=Tryz.underlying254
 a154:=Tryz.isAgg254
 z154:=Tryz.sizeOf254
 v154:=Tryz.zeroValue254
 t193:=Tryz.underlying270
 a193:=Tryz.isAgg270
 z193:=Tryz.sizeOf270
 v193:=Tryz.zeroValue270
 t194:=Tryz.underlying271
 a194:=Tryz.isAgg271
 z194:=Tryz.sizeOf271
 v194:=Tryz.zeroValue271
 t196:=Tryz.underlying273
 a196:=Tryz.isAgg273
 z196:=Tryz.sizeOf273
 v196:=Tryz.zeroValue273
 t198:=Tryz.underlying276
 a198:=Tryz.isAgg276
 z198:=Tryz.sizeOf276
 v198:=Tryz.zeroValue276
 t201:=Tryz.underlying279
 a201:=Tryz.isAgg279
 z201:=Tryz.sizeOf279
 v201:=Tryz.zeroValue279
 t226:=Tryz.underlying285
 a226:=Tryz.isAgg285
 z226:=Tryz.sizeOf285
 v226:=Tryz.zeroValue285
 t227:=Tryz.underlying286
 a227:=Tryz.isAgg286
 z227:=Tryz.sizeOf286
 v227:=Tryz.zeroValue286
 g0:=by kernel_rfl
 g6:=by kernel_rfl}
open Go.RowKit Go.Lib in
theorem Tryz.strings_Fields (s:ByteArray) (w:World) (hs:s.size<4294967281) (hascii: ∀(j:Nat) b,s.data.toList[j]?=some b->b.toNat<128) (htab:Lib.TabIs Tryz.prog w "strings.asciiSpace" .u8 Lib.asciiSpaceTab):
  Calls Tryz.prog 158 #[.string s] w fun e w'=>
   e= .returned (.slice (some ⟨w.heap.size,0,none⟩) (Lib.fields s.data.toList).length (Lib.fields s.data.toList).length)/\w'=w.alloc (.cells ((Lib.fields s.data.toList).map fun l=>Value.string ⟨l.toArray⟩).toArray 9):=Any.strings_Fields Tryz.lays157 (by kernel_rfl) (by kernel_rfl) s w hs hascii htab
def Tryz.lays111_ren:Go.Shelf.Ren:=⟨fun|111=>129|n=>n,fun|28=>38|3=>3|4=>4|0=>0|n=>n,fun|n=>n⟩
theorem Tryz.lays111:Go.Proofs.Lays.n111 Tryz.prog Tryz.lays111_ren:={
 mixed:=by kernel_rfl
 f111:=Tryz.func129.trans (congrArg some (by kernel_rfl))
 t0:=Tryz.underlying0
 a0:=Tryz.isAgg0
 z0:=Tryz.sizeOf0
 v0:=Tryz.zeroValue0
 t3:=Tryz.underlying3
 a3:=Tryz.isAgg3
 z3:=Tryz.sizeOf3
 v3:=Tryz.zeroValue3
 t4:=Tryz.underlying4
 a4:=Tryz.isAgg4
 z4:=Tryz.sizeOf4
 v4:=Tryz.zeroValue4
 t28:=Tryz.underlying38
 a28:=Tryz.isAgg38
 z28:=Tryz.sizeOf38
 v28:=Tryz.zeroValue38}
open Go.RowKit Go.Lib in
theorem Tryz.slices_Equal_int (b1 o1 n c b2 o2 m d:Nat) (xs ys:List Int) (w:World) (hx:n<=xs.length) (hy:m<=ys.length) (hbig:n<=9223372036854775807) (hbig2:m<=9223372036854775807) (hc1: ∀j,j<xs.length->w.cell? ⟨b1,o1+j,none⟩=some (.int .i64 (xs.getD j 0))) (hc2: ∀j,j<ys.length->w.cell? ⟨b2,o2+j,none⟩=some (.int .i64 (ys.getD j 0))):
  Calls Tryz.prog 129 #[.slice (some ⟨b1,o1,none⟩) n c,.slice (some ⟨b2,o2,none⟩) m d] w fun e w'=>e= .returned (.bool (xs.take n==ys.take m))/\ ∃q,w'=w.drewN q:=Any.slices_Equal_int Tryz.lays111 b1 o1 n c b2 o2 m d xs ys w hx hy hbig hbig2 hc1 hc2
open Go.RowKit Go.Lib in
theorem Tryz.slices_Equal_int_empty (a1 a2:zzA) (c m d:Nat) (w:World) (hbig2:m<=9223372036854775807):
  Calls Tryz.prog 129 #[.slice a1 0 c,.slice a2 m d] w fun e w'=>e= .returned (.bool (decide (m=0)))/\w'=w:=Any.slices_Equal_int_empty Tryz.lays111 a1 a2 c m d w hbig2
def Tryz.laysNm215_ren:Go.Shelf.Ren:=⟨fun|15=>36|n=>n,fun|22=>38|3=>3|4=>4|n=>n,fun|n=>n⟩
theorem Tryz.laysNm215:Go.Proofs.Lays2.n15 Tryz.prog Tryz.laysNm215_ren:={
 mixed:=by kernel_rfl
 f15:=Tryz.func36.trans (congrArg some (by kernel_rfl))
 t3:=Tryz.underlying3
 a3:=Tryz.isAgg3
 z3:=Tryz.sizeOf3
 v3:=Tryz.zeroValue3
 t4:=Tryz.underlying4
 a4:=Tryz.isAgg4
 z4:=Tryz.sizeOf4
 v4:=Tryz.zeroValue4
 t22:=Tryz.underlying38
 a22:=Tryz.isAgg38
 z22:=Tryz.sizeOf38
 v22:=Tryz.zeroValue38
 i3:=by kernel_rfl}
open Go.RowKit Go.Lib in
theorem Tryz.slices_Clone_int (b off n c:Nat) (zs:List Int) (w:World) (hz:n<=zs.length) (hbig:n*8<=140737488355328) (hc: ∀j,j<zs.length->w.cell? ⟨b,off+j,none⟩=some (.int .i64 (zs.getD j 0))):
  Calls Tryz.prog 36 #[.slice (some ⟨b,off,none⟩) n c] w fun e w'=> ∃v',e= .returned v'/\w'.ownsRow w.heap.size 3 1 v' n ((zs.take n).map (Value.int .i64))/\v'≠ .slice none 0 0/\Below w.heap.size w w':=Any.slices_Clone_int Tryz.laysNm215 b off n c zs w hz hbig hc
open Go.RowKit Go.Lib in
theorem Tryz.slices_Clone_int_nil (n c:Nat) (w:World):
  Calls Tryz.prog 36 #[.slice none n c] w fun e w'=>e= .returned (.slice none 0 0)/\w'=w:=Any.slices_Clone_int_nil Tryz.laysNm215 n c w
open Go.RowKit Go.Lib in
theorem Tryz.slices_Clone_int_zero (a:Addr) (c:Nat) (w:World):
  Calls Tryz.prog 36 #[.slice (some a) 0 c] w fun e w'=> ∃v',e= .returned v'/\w'.ownsRow w.heap.size 3 1 v' 0 []/\v'≠ .slice none 0 0/\Below w.heap.size w w':=Any.slices_Clone_int_zero Tryz.laysNm215 a c w
def Tryz.laysNm220_ren:Go.Shelf.Ren:=⟨fun|20=>141|n=>n,fun|22=>38|3=>3|4=>4|0=>0|n=>n,fun|n=>n⟩
theorem Tryz.laysNm220:Go.Proofs.Lays2.n20 Tryz.prog Tryz.laysNm220_ren:={
 mixed:=by kernel_rfl
 f20:=Tryz.func141.trans (congrArg some (by kernel_rfl))
 t0:=Tryz.underlying0
 a0:=Tryz.isAgg0
 z0:=Tryz.sizeOf0
 v0:=Tryz.zeroValue0
 t3:=Tryz.underlying3
 a3:=Tryz.isAgg3
 z3:=Tryz.sizeOf3
 v3:=Tryz.zeroValue3
 t4:=Tryz.underlying4
 a4:=Tryz.isAgg4
 z4:=Tryz.sizeOf4
 v4:=Tryz.zeroValue4
 t22:=Tryz.underlying38
 a22:=Tryz.isAgg38
 z22:=Tryz.sizeOf38
 v22:=Tryz.zeroValue38
 i3:=by kernel_rfl}
open Go.RowKit Go.Lib Go.Sort in
theorem Tryz.slices_Compact_int (blk off cap:Nat) (zs:List Int) (w:World) (hH:Holds (Value.int .i64) w blk off zs.toArray) (hsz:zs.length<=9223372036854775807) (hcap:zs.length<=cap):
  Calls Tryz.prog 141 #[.slice (some ⟨blk,off,none⟩) zs.length cap] w fun e w'=>e= .returned (.slice (some ⟨blk,off,none⟩) (Lib.compact zs).length cap)/\ ∃q,w'=putRow (Value.int .i64) (Sort.ahead w q) blk off (Lib.compact zs++List.replicate (zs.length-(Lib.compact zs).length) 0).toArray:=Any.slices_Compact_int Tryz.laysNm220 blk off cap zs w hH hsz hcap
open Go.RowKit Go.Lib Go.Sort in
theorem Tryz.slices_Compact_int_empty (a:zzA) (cap:Nat) (w:World):
  Calls Tryz.prog 141 #[.slice a 0 cap] w fun e w'=>e= .returned (.slice a 0 cap)/\w'=w:=Any.slices_Compact_int_empty Tryz.laysNm220 a cap w
open Go.RowKit Go.Sort in
theorem Tryz.slices_Sort_int_none (p:zzA) (cap:Nat) (w:World):
  Calls Tryz.prog 140 #[.slice p 0 cap] w fun e w'=>e= .returned (.tuple #[])/\w'=w:=Any.slices_Sort_int_none Tryz.lays189 p cap w
open Go.RowKit Go.Lib in
theorem Tryz.slices_Equal_int_lens (a1 a2:zzA) (n c m d:Nat) (w:World) (hnm:n≠m):
  Calls Tryz.prog 129 #[.slice a1 n c,.slice a2 m d] w fun e w'=>e= .returned (.bool false)/\w'=w:=Any.slices_Equal_int_lens Tryz.lays111 a1 a2 n c m d w hnm
def Tryz.laysSlE041_f36_ren:Go.Shelf.Ren:=⟨fun|41=>36|n=>n,fun|22=>38|23=>3|4=>4|n=>n,fun|n=>n⟩
theorem Tryz.laysSlE041_f36:Go.Proofs.SlLaysE0.n41 Tryz.prog Tryz.laysSlE041_f36_ren:={
 mixed:=by kernel_rfl
 f41:=⟨Tryz.f36.name,by decide,Tryz.func36.trans (congrArg some (by kernel_rfl))⟩
 t4:=Tryz.underlying4
 a4:=Tryz.isAgg4
 z4:=Tryz.sizeOf4
 v4:=Tryz.zeroValue4
 t22:=Tryz.underlying38
 a22:=Tryz.isAgg38
 z22:=Tryz.sizeOf38
 v22:=Tryz.zeroValue38}
open Go.RowKit Go.Lib in
theorem Tryz.slices_Clone (i0:TypeInfo) (z:Value) (size bytes:Nat) (hi:Tryz.prog.info? 3=some i0) (hz0:i0.zero=some z) (hz1:i0.size=size) (hz2:i0.bytes=bytes) (hzs:z.cells.size=size) (hsz:0<size) (z23: ∀w,(Go.sizeOf 3).run Tryz.prog w= .ok size w) (b off n c:Nat) (news:List Value) (w:World) (hl:news.length=n*size) (hn:n<=maxLen) (hbig:n*bytes<=140737488355328) (hc: ∀j u,news[j]?=some u->w.cell? ⟨b,off+j,none⟩=some u) (h1: ∀u∈news,u.oneCell'=true):
  Calls Tryz.prog 36 #[.slice (some ⟨b,off,none⟩) n c] w fun e w'=> ∃v',e= .returned v'/\w'.ownsRow w.heap.size 3 size v' n news/\v'≠ .slice none 0 0/\Below w.heap.size w w':=AnyE.slices_Clone Tryz.laysSlE041_f36 i0 z size bytes hi hz0 hz1 hz2 hzs hsz z23 b off n c news w hl hn hbig hc h1
open Go.RowKit Go.Lib in
theorem Tryz.slices_Clone_nil (n c:Nat) (w:World):
  Calls Tryz.prog 36 #[.slice none n c] w fun e w'=>e= .returned (.slice none 0 0)/\w'=w:=AnyE.slices_Clone_nil Tryz.laysSlE041_f36 n c w
def wi (n a b:Int):Bool:=decide (a<=n)&&decide (n<=b)
theorem zeR {n a b:Int} (h:a<=n) (h':n<=b):wi n a b=true:=by unfold wi;rw [decide_eq_true h,decide_eq_true h'];rfl
theorem zdJ {n a b:Int} (h: ¬(a<=n/\n<=b)):wi n a b=false:=by
 unfold wi;by_cases h1:a<=n
 ·rw [decide_eq_true h1,decide_eq_false (fun h2=>h ⟨h1,h2⟩)];rfl
 ·rw [decide_eq_false h1];rfl
theorem zl (n a b:Int) (w:World):
  Calls Tryz.prog 71 #[.int .i64 n,.int .i64 a,.int .i64 b] w fun e w'=>e= .returned (.bool (wi n a b))/\w=w':=by
 by_cases h1:a<=n
 ·exact zz13
 ·exact zz14
def zbH (nl:Nat) (a:RArg):Bool:=if a.kind=1 then wi a.n 0 255 else if a.kind=2 then wi a.n 0 8191 else if a.kind=3 then wi a.n 0 ((nl:Int)-1)else false
theorem zcM (B:Nat) (u:RUnit) (lo fo go co:zzA) (lc fc gc cc:Nat) (a:RArg) (w:World) (hb:UBox w B u lo fo go co lc fc gc cc) (hl:u.lits.length<=9223372036854775807) (ha:I64 a.kind/\I64 a.n):
  Calls Tryz.prog 73 #[.pointer (some ⟨B,0,none⟩),.agg #[.int .i64 a.kind,.int .i64 a.n]] w fun e w'=>e= .returned (.bool (zbH u.lits.length a))/\Below w.heap.size w w':=by
 have hbe:Below w.heap.size w (w.alloc (.cells #[.int .i64 a.kind,.int .i64 a.n] 42)):=zzE _ _;have b2:=(hb.below hbe).c2;have hlt:=hb.lt;obtain⟨⟨x1,x2⟩,⟨y1,y2⟩⟩:=ha;obtain⟨ak,an⟩:=a;simp only at x1 x2 y1 y2;by_cases k1:ak=1
 ·subst k1
  have E:Hid (zbH u.lits.length ⟨1,an⟩=wi an 0 255):=zzH rfl;exact zz15
 ·by_cases k2:ak=2
  ·subst k2
   have E:Hid (zbH u.lits.length ⟨2,an⟩=wi an 0 8191):=zzH rfl;clear k1;exact zz15
  ·by_cases k3:ak=3
   ·subst k3
    have E:Hid (zbH u.lits.length ⟨3,an⟩=wi an 0 ((u.lits.length:Int)-1)):=zzH rfl;clear k1 k2;generalize u.lits.length=nl at *;have hw1:IntKind.i64.wrap ((nl:Int)-1)=(nl:Int)-1:=by rw [zzq5];omega
    go_in;go_wp2_with fail;go_quiet ((go_at_call 71;exact zze ((zl _ _ _ _).mono fun _ _ ⟨a,b⟩=>⟨a,b.symm⟩)));go_wp2;go_ret;exact⟨zi E.out.symm,zg hbe _⟩
   ·have E:Hid (zbH u.lits.length ⟨ak,an⟩=false):=zzH (by unfold zbH;rw [if_neg k1,if_neg k2,if_neg k3])
    have t1:(ak==1)=false:=zzB.2 k1;have t2:(ak==2)=false:=zzB.2 k2;have t3:(ak==3)=false:=zzB.2 k3;clear k1 k2 k3;go_in;exact zz16
def rowT:List (Int × Int × Int):=[(0,0,0),(3,1,1),(131,0,255),(131,2,2),(135,0,200),(7,1,1),(3,1,1),(3,1,1),(64,0,0),(70,1,1),(66,1,1),(66,2,2),(82,1,1),(203,0,255),(139,0,3),(12,0,0),(4,0,0),(4,0,0),(6,2,2),(6,2,2),(6,1,1),(6,1,1),(2,2,3),(2,2,3),(4,0,0),(0,0,0),(0,0,0),(2,2,2),(64,0,0),(0,0,0),(66,1,1),(199,1,1),(199,1,1),(197,0,0),(64,0,0),(161,0,0),(2,0,1),(64,0,0),(0,0,0),(64,0,0),(64,0,0)]
def RowsAt (w:World):Prop:=0<w.heap.size/\ ∀k (h:k<41),w.cell? ⟨0,k*3,none⟩=some (.int .i64 (rowT[k]'h).1)/\w.cell? ⟨0,k*3+1,none⟩=some (.int .i64 (rowT[k]'h).2.1)/\w.cell? ⟨0,k*3+2,none⟩=some (.int .i64 (rowT[k]'h).2.2)
theorem RowsAt.below {w w':World} (h:RowsAt w) (hb:Below w.heap.size w w'):RowsAt w':=
 ⟨zzW h.1 hb.size,fun k hk=>by
  obtain⟨a,b,c⟩:=h.2 k hk;exact⟨(hb.cell (p:=⟨0,k*3,none⟩) h.1).trans a,(hb.cell (p:=⟨0,k*3+1,none⟩) h.1).trans b,(hb.cell (p:=⟨0,k*3+2,none⟩) h.1).trans c⟩⟩
theorem zbj {fn:Func} {p u:Tmp} {ty:TypeId} (h:fn.results=#[.cell p ty,.tmp u]) (tmps:Array Value) (P:Program) (w:World) (g:Nat) (t:TypeId) (cs:Array Value) (fr:Nat × Nat) (fs:Array Field)
  (hp:tmps.getD p undef= .pointer (some ⟨g,0,none⟩)) (hg:w.heap[g]?=some (.cells cs t fr))
  (hu:P.underlying ty=some (.struct fs)) (hi:(P.info? ty).map (·.size)=some cs.size):
  (results fn tmps).run P w= .ok (.tuple #[.agg cs,tmps.getD u undef]) w:=by
 have hl:=run_loadVar_row w g t ty cs fr (.struct fs) hg hu rfl hi;rw [results_cell_tmp h,hp];simp [asAddr,hl,Result.andThen]
theorem zi3 (k:Nat) (h1:1<=k) (h2:k<41) (w:World) (hr:RowsAt w):
  Calls Tryz.prog 39 #[.int .i64 k] w fun e w'=>e= .returned (.tuple #[.agg #[.int .i64 (rowT[k]'h2).1,.int .i64 (rowT[k]'h2).2.1,.int .i64 (rowT[k]'h2).2.2],.bool true])/\Below w.heap.size w w':=by
 obtain⟨c0,c1,c2⟩:=hr.2 k h2;have hlt:=hr.1;generalize rowT[k]'h2=x at *;obtain⟨x0,x1,x2⟩:=x;simp only at c0 c1 c2;go_in;go_wp2;refine zzj (zbj rfl _ _ _ w.heap.size _ _ _ _ rfl (zzF _ _) Tryz.underlying97 (by kernel_rfl)) rfl ?_;exact⟨rfl,zzE _ _⟩
theorem zkv (op:Int) (h: ¬(1<=op/\op<=40)) (w:World):
  Calls Tryz.prog 39 #[.int .i64 op] w fun e w'=>e= .returned (.tuple #[.agg #[.int .i64 0,.int .i64 0,.int .i64 0],.bool false])/\Below w.heap.size w w':=by
 by_cases h1:op<1
 ·exact zz17
 ·have h2:40<op:=by omega
  exact zz17
def zj (h f:Nat):Bool:=decide (h&&&f≠0)
theorem zhD (a b:Nat) (ha:a<9223372036854775808) (hb:b<9223372036854775808):bits .and .i64 (a:Int) (b:Int)=((a&&&b:Nat):Int):=by
 have hx:a&&&b<2^63:=Nat.and_lt_two_pow _ (by omega)
 have h1:(BitVec.ofInt 64 (a:Int)).toNat=a:=by
  rw [BitVec.ofInt_natCast,BitVec.toNat_ofNat];exact Nat.mod_eq_of_lt (by omega)
 have h2:(BitVec.ofInt 64 (b:Int)).toNat=b:=by
  rw [BitVec.ofInt_natCast,BitVec.toNat_ofNat];exact Nat.mod_eq_of_lt (by omega)
 show IntKind.i64.wrap ((BitVec.ofInt 64 (a:Int)&&&BitVec.ofInt 64 (b:Int)).toNat:Int)=_;rw [BitVec.toNat_and,h1,h2,zzq5];omega
theorem zcI (h f:Nat) (z:Int) (hz:z=f) (C:Nat) (w:World) (hc:w.cell? ⟨C,0,none⟩=some (.int .i64 h)) (h1:h<1000) (h2:f<1000):
  Calls Tryz.prog 72 #[.int .i64 z,.pointer (some ⟨C,0,none⟩)] w fun e w'=>e= .returned (.bool (zj h f))/\w=w':=by
 subst hz;have ha:=zhD h f (by omega) (by omega)
 have E:Hid ((((h&&&f:Nat):Int)!=0)=zj h f):=zzH (by
  unfold zj;by_cases c:h&&&f=0
  ·rw [c];rfl
  ·rw [decide_eq_true c];rw [bne_iff_ne];omega)
 generalize h&&&f=x at *;go_in;go_wp2;go_ret;exact⟨zi E.out,rfl⟩
theorem zij (op:Int) (h: ¬(op=2\/op=3\/op=4\/op=14\/op=15\/op=27\/op=35\/op=36)):zbI op=wi op 16 23:=by
 unfold zbI wi;by_cases c:16<=op/\op<=23
 ·have hm:op∈([2,3,4,14,15,16,17,18,19,20,21,22,23,27,35,36]:List Int):=by simp;omega
  rw [decide_eq_true hm,decide_eq_true c.1,decide_eq_true c.2];rfl
 ·have hm:op∉([2,3,4,14,15,16,17,18,19,20,21,22,23,27,35,36]:List Int):=by simp;omega
  rw [decide_eq_false hm];by_cases c1:16<=op
  ·rw [decide_eq_true c1,decide_eq_false (fun h=>c ⟨c1,h⟩)];rfl
  ·rw [decide_eq_false c1];rfl
theorem zfc (op:Int) (w:World):
  Calls Tryz.prog 97 #[.int .i64 op] w fun e w'=>e= .returned (.bool (zbI op))/\w=w':=by
 by_cases h:op=2\/op=3\/op=4\/op=14\/op=15\/op=27\/op=35\/op=36
 ·rcases h with rfl|rfl|rfl|rfl|rfl|rfl|rfl|rfl
  all_goals
   go_in;go_wp2;go_ret;exact⟨rfl,rfl⟩
 ·have E:=zzH (zij op h)
  have t1:(op==2)=false:=by rw [zzq1];omega
  have t2:(op==3)=false:=by rw [zzq1];omega
  have t3:(op==4)=false:=by rw [zzq1];omega
  have t4:(op==14)=false:=by rw [zzq1];omega
  have t5:(op==15)=false:=by rw [zzq1];omega
  have t6:(op==27)=false:=by rw [zzq1];omega
  have t7:(op==35)=false:=by rw [zzq1];omega
  have t8:(op==36)=false:=by rw [zzq1];omega
  clear h;go_in;go_wp2_with (go_at_call 71;refine(zl _ _ _ _).mono ?_;rintro e w1 ⟨rfl,rfl⟩);go_ret;exact⟨zi E.out.symm,rfl⟩
structure VSt where
 frame:Int
 x:List Int
 y:List Int
 tries:List Int
 mt:Bool
 recv:Int
 frm:Int
abbrev zzs(s:VSt)(a:Option Addr)(b:Nat)(c:Option Addr)(d:Nat)(e:Option Addr)(f:Nat):Array Value:=#[.int .i64 s.frame,.slice a s.x.length b,.slice c s.y.length d,.slice e s.tries.length f,.bool s.mt,.int .i64 s.recv,.int .i64 s.frm]
def VSt.zero:VSt:=⟨0,[],[],[],false,0,0⟩
def zK (a b:Int):Int:=if a=b then a else if a=0\/b=0 then 0 else if 3<=a/\3<=b then min a b else 1
def zbl (l:List Int):Nat->Nat
 |0=>0
 |n+1=>if l.getD n 0=0 then zbl l n else n+1
def zt (l:List Int):List Int:=l.take (zbl l l.length)
def zcZ (l:List Int) (n:Int):Int:=l.getD n.toNat 0
def zH:List Int->List Int->List Int
 |a::l,b::m=>zK a b::zH l m
 |_,_=>[]
def zbu (a b:VSt):VSt:=⟨a.frame,zt (zH a.x b.x),zH a.y b.y,a.tries,a.mt&&b.mt,a.recv,a.frm⟩
def zJ (a b:VSt):Int:=if a.frame≠b.frame then 181 else if a.tries≠b.tries then 182 else if a.recv≠b.recv\/a.frm≠b.frm then 184 else 0
def zbC (n:Int):List Int:=List.replicate n.toNat 1
def zcr (n:Int):VSt:=⟨-1,zbC n,[],[],false,0,0⟩
def zcH (l:List Int) (n:Nat) (t:Int):List Int:=(l++List.replicate (n+1-l.length) 0).set n t
def zch (s:VSt) (a:RArg) (t:Int):VSt:=if a.kind=1 then{s with x:=zt (zcH s.x a.n.toNat t)}else if a.kind=2 then{s with y:=s.y.set a.n.toNat t}else s
structure VM where
 st:VSt
 all:List VSt
 wrong:Int
def zbK (s:VSt) (w:Int) (t:VSt):Int:=if zJ s t≠0/\(w=0\/zJ s t<w)then zJ s t else w
def zn (s:VSt) (l:List VSt) (w:Int):Int:=l.foldl (zbK s) w
def zP (s:VSt) (l:List VSt):Bool:=l.any (fun t=>zJ s t==0)
def zcJ:Option VM->VSt->Option VM
 |none,s=>some ⟨s,[s],0⟩
 |some m,s=>some ⟨if zn s m.all m.wrong=0 then zbu m.st s else m.st,if zP s m.all=true then m.all else m.all++ [s],zn s m.all m.wrong⟩
section
variable (u:RUnit)
def zkP (i:Int):Int:=match u.lits[i.toNat]? with
 |some t=>if t.kind=9 then 2 else if t.kind=7 then 3+t.items.length else 1
 |none=>1
def zb2 (s:VSt) (a:RArg):Int:=if a.kind=1 then zcZ s.x a.n else if a.kind=2 then(if s.frame<=a.n then 0 else s.y.getD a.n.toNat 0)else zkP u a.n
def zbG (s:VSt) (a:RArg):Int:=if a.kind=1 then(if zcZ s.x a.n=0 then 186 else 0)else if a.kind=2 then(if s.frame<=a.n then 181 else 0)else 0
def zbz (x:RIns):Int:=if x.op=15\/x.op=18\/x.op=19\/x.op=20\/x.op=21 then x.n else if x.op=16\/x.op=17 then((u.funcs[x.n.toNat]?).map RFunc.arity).getD 0 else if x.op=26 then 1 else 0
def zV (s:VSt):List RArg->Int
 |[]=>0
 |a::l=>if zbG s a≠0 then zbG s a else zV s l
def zbo:List RSeg->List RArg
 |[]=>[]
 |g::l=>g.val::(if g.size.kind=0/\g.size.n=0 then zbo l else g.size::zbo l)
def zbD (n:Nat):List RArg:=(List.range n).map fun k:Nat=>⟨1,(k:Int)⟩
def ze9 (x:RIns):List RArg:=x.src++(zbo x.segs++zbD (zbz u x).toNat)
def zcj (s:VSt) (x:RIns):Int:=if zV s (ze9 u x)≠0 then zV s (ze9 u x)else if x.dst.kind=2/\s.frame<=x.dst.n then 181 else 0
def zQ (x:RIns):RArg:=x.src.headD ⟨0,0⟩
def zej (s:VSt) (x:RIns):Int:=if x.op=5 then(if zb2 u s (zQ x)<3+x.n+1 then 180 else 0)else if x.op=6\/x.op=7 then(if zb2 u s (zQ x)≠2 then 180 else 0)else 0
def zga (op:Int):Bool:=decide (op∈([1,5,6,7,8,9,10,11,12,13,30,31,32,33,34]:List Int))
def zdf (s:VSt) (x:RIns):Int:=if x.op=37\/x.op=40 then(if s.recv≠1 then 184 else 0)else if x.op=38\/x.op=39 then(if s.recv≠2 then 184 else 0)else if zga x.op=true then 0 else if s.recv≠0 then 184 else 0
def zdZ (s:VSt) (x:RIns):Int:=if s.mt=false/\31<=x.op/\x.op<=34 then 183 else 0
def zbY (op:Int):Bool:=decide (op=26\/op=17\/op=19\/op=21\/op=23)
def zd8 (s:VSt) (x:RIns):Int:=if 0<=s.frame/\(x.op=24\/zbY x.op=true)\/s.frame<0/\x.op=25 then 181 else 0
def zct (l:List Int):Int:=l.getD (l.length-1) 0
def zcT (i:Nat) (s:VSt) (x:RIns):Int:=if s.tries.length=0 then(if x.op=29 then 182 else 0)else if zbY x.op=true\/zbI x.op=true/\zct s.tries<=i then 182 else 0
def zbX:List Int->Int
 |[]=>0
 |e::l=>if e≠0 then e else zbX l
def zcw (i:Nat) (s:VSt) (x:RIns):Int:=zbX [zcj u s x,zej u s x,zdf s x,zdZ s x,zd8 s x,zcT i s x]
def zck (s:VSt) (x:RIns):Int:=
 if x.op=1 then zb2 u s (zQ x)else if x.op=2\/x.op=13/\x.name.data.toList= [123,125]then 3+x.src.length else if x.op=3\/x.op=13/\x.name.data.toList= [124]then 2 else 1
def zcu (op:Int):Bool:=decide (op∈([2,3,4,13,14,31,32,33,35]:List Int))
def zX (s:VSt) (x:RIns):VSt:=if zcu x.op=true/\x.live<s.x.length then{s with x:=zt (s.x.take x.live.toNat)}else s
def zda (s:VSt):VSt:={s with x:=[1],mt:=false}
def zdO (s:VSt):VSt:={zda s with y:=List.replicate s.y.length 1,recv:=2}
def zc5 (i:Nat) (s:VSt) (x:RIns):VSt:=
 let c:=zX s x
 let n:=if x.dst.kind≠0 then zch c x.dst (zck u s x)else c
 if x.op=9 then zch c (zQ x) (3+x.n)else if x.op=10 then zch c (zQ x) 2
 else if x.op=15\/x.op=16\/x.op=18\/x.op=20\/x.op=22 then zda c
 else if x.op=37 then zdO c
 else if x.op=24 then{n with frame:=x.n,y:=zbC x.n}
 else if x.op=25 then{n with frame:= -1,y:=[]}
 else if x.op=28 then{n with tries:=c.tries++ [x.to]}
 else if x.op=29 then{n with tries:=c.tries.take (c.tries.length-1)}
 else if x.op=30 then{n with mt:=true}
 else if x.op=36 then{n with recv:=1,frm:=i}
 else if x.op=38\/x.op=40 then{n with recv:=0,frm:=0}
 else n
def toV (s:VSt) (x:RIns):VSt:=
 if x.op=37 then{zdO (zX s x)with x:=[],recv:=1}else if x.op=39 then{zX s x with recv:=1}else zX s x
def zc7 (s:VSt):VSt:=⟨s.frame,[1,1],s.y,s.tries.take (s.tries.length-1),false,0,0⟩
def zbi (op:Int):Bool:=!(decide (op=8\/op=39\/op=12\/op=27)||zbY op)
def toB (op:Int):Bool:=decide (op∈([8,9,10,11,12,13,30,31,32,33,34,37,39,40]:List Int))
def zbg (i:Nat) (x:RIns):List Int:=
 (if zbi x.op=true then [(i:Int)+1]else [])++((if toB x.op=true then [x.to]else [])++(if x.op=12 then x.cases.map RCase.to else []))
def zdu (i:Nat):RIns:=(u.code[i]?).getD ⟨0,⟨0,0⟩,[],0,0,0,⟨#[]⟩,[],[]⟩
def zcG (i:Nat) (s:VSt) (x:RIns):List (Nat × VSt):=
 (if toB x.op=true/\i<x.to then [(x.to.toNat,toV s x)]else [])++(x.cases.map (fun c=>(c.to.toNat,toV s x)) ++
  ((if zbI x.op=true/\s.tries≠ []then [((zct s.tries).toNat,zc7 s)]else [])++(if zbi x.op=true then [(i+1,zc5 u i s x)]else [])))
def zb9 (t:Option VSt) (s:VSt):Bool:=match t with
 |none=>true
 |some t=>decide (t.frame≠s.frame\/t.frm≠s.frm\/t.tries≠s.tries)
def zdn (i:Nat) (s:VSt) (x:RIns) (S:Nat->Option VSt):Int:=if toB x.op=true/\x.to<=i/\zb9 (S x.to.toNat) s=true then 184 else if zbi x.op=true/\i+1=u.code.length then 185 else 0
def zC (M:Nat->Option VM) (p:Nat × VSt):Nat->Option VM:=fun j=>if j=p.1 then zcJ (M j) p.2 else M j
def stM (M:Nat->Option VM):Nat->Option VSt:=fun j=>(M j).map VM.st
def zco:Nat->Nat->(Nat->Option VM)->(Int × Int) × (Nat->Option VM)
 |0,_,M=>((0,0),M)
 |f+1,i,M=>match M i with
  |none=>zco f (i+1) M
  |some m=>
   if m.wrong≠0 then((i,m.wrong),M)
   else if zcw u i m.st (zdu u i)≠0 then((i,zcw u i m.st (zdu u i)),M)
   else if zdn u i m.st (zdu u i) (stM M)≠0 then((i,zdn u i m.st (zdu u i) (stM M)),M)
   else zco f (i+1) ((zcG u i m.st (zdu u i)).foldl zC M)
def zcK:List (Nat × VSt):=u.funcs.map (fun f=>(f.entry.toNat,zcr f.arity))++u.funs.map (fun f=>(f.entry.toNat,zcr (f.arity+f.free)))
def zcX:(Int × Int) × (Nat->Option VM):=zco u u.code.length 0 (zcK u |>.foldl zC fun _=>none)
end
theorem zg9 (s t:VSt):zJ s t=0\/zJ s t=181\/zJ s t=182\/zJ s t=184:=by
 unfold zJ;split<;>(try split)<;>(try split)<;>simp
theorem clash_zero {s t:VSt}:zJ s t=0↔s.frame=t.frame/\s.tries=t.tries/\s.recv=t.recv/\s.frm=t.frm:=by
 unfold zJ;by_cases h1:s.frame=t.frame
 ·by_cases h2:s.tries=t.tries
  ·by_cases h3:s.recv=t.recv
   ·by_cases h4:s.frm=t.frm<;>simp [h1,h2,h3,h4]
   ·simp [h1,h2,h3]
  ·simp [h1,h2]
 ·simp [h1]
def zfs (w:Int):Prop:=w=0\/w=181\/w=182\/w=184
theorem zjh (s:VSt) {w:Int} (t:VSt) (h:zfs w):zfs (zbK s w t):=by
 unfold zbK;split
 ·exact zg9 s t
 ·exact h
section
variable {u:RUnit}
theorem zdr: ∀{l:List Int},zbX l=0-> ∀e∈l,e=0
 |[],_,e,h=>absurd h List.not_mem_nil
 |a::l,h,e,he=>by
  unfold zbX at h;by_cases c:a=0
  ·rw [if_neg (by simp [c])]at h
   rcases List.mem_cons.1 he with r|r
   ·rw [r,c]
   ·exact zdr h e r
  ·rw [if_pos c]at h;exact absurd h c
theorem zgz {i:Nat} {s:VSt} {x:RIns} (h:zcw u i s x=0):zcT i s x=0:=zdr h _ (by simp)
end
theorem zew (a b:Int):zK (zK a b) b=zK a b:=by
 unfold zK;by_cases h1:a=b
 ·simp [h1]
 ·by_cases h2:a=0\/b=0
  ·rw [if_neg h1,if_pos h2]
   by_cases h3:(0:Int)=b<;>simp [h3]
  ·by_cases h3:3<=a/\3<=b
   ·rw [if_neg h1,if_neg h2,if_pos h3]
    by_cases h4:min a b=b
    ·simp [h4]
    ·rw [if_neg h4,if_neg (by omega),if_pos (by omega)];omega
   ·rw [if_neg h1,if_neg h2,if_neg h3]
    by_cases h4:(1:Int)=b
    ·simp [h4]
    ·rw [if_neg h4,if_neg (by omega),if_neg (by omega)]
theorem zh5 (b:Int):zK 0 b=0:=by
 unfold zK;by_cases h:(0:Int)=b<;>simp [h]
theorem zeB (l:List Int): ∀n,zbl l n<=n
 |0=>zzL _
 |n+1=>by unfold zbl;split;exact Nat.le_succ_of_le (zeB l n);exact zzL _
theorem zex {l m:List Int}: ∀(n:Nat),(∀k,k<n->l.getD k 0=m.getD k 0)->zbl l n=zbl m n
 |0,_=>rfl
 |n+1,h=>by
  unfold zbl;rw [h n (Nat.lt_succ_self n),zex n fun k hk=>h k (by omega)]
theorem zeu (l:List Int) {k:Nat}: ∀(n:Nat),k<=n->(∀j,k<=j->j<n->l.getD j 0=0)->zbl l n=zbl l k
 |0,hk,_=>by rw [Nat.le_zero.1 hk]
 |n+1,hk,h=>by
  rcases Nat.lt_or_ge n k with c|c
  ·rw [show k=n+1 by omega]
  ·rw [zbl,if_pos (h n c (Nat.lt_succ_self n))]
   exact zeu l n c fun j h1 h2=>h j h1 (by omega)
theorem zf1 (l:List Int) (j:Nat): ∀n,zbl l n<=j->j<n->l.getD j 0=0
 |0,_,h=>absurd h (zzC j)
 |n+1,h1,h2=>by
  unfold zbl at h1;split at h1
  ·rename_i c
   rcases Nat.lt_or_ge j n with d|d
   ·exact zf1 l j n h1 d
   ·rw [show j=n by omega];exact c
  ·omega
theorem zfG (l:List Int) (j:Nat):(zt l).getD j 0=l.getD j 0:=by
 unfold zt;rcases Nat.lt_or_ge j (zbl l l.length)with c|c
 ·rw [List.getD_eq_getElem?_getD,List.getD_eq_getElem?_getD,List.getElem?_take_of_lt c]
 ·have h2:(l.take (zbl l l.length)).getD j 0=0:=by
   rw [List.getD_eq_getElem?_getD,List.getElem?_eq_none (by rw [List.length_take];omega)];rfl
  rw [h2];rcases Nat.lt_or_ge j l.length with d|d
  ·exact(zf1 l j l.length c d).symm
  ·rw [List.getD_eq_getElem?_getD,List.getElem?_eq_none d];rfl
theorem zg1 {l m:List Int} (h: ∀j,l.getD j 0=m.getD j 0):zt l=zt m:=by
 have key: ∀(l m:List Int),l.length<=m.length->(∀j,l.getD j 0=m.getD j 0)->zt l=zt m:=by
  intro l m hl h
  have e:zbl m m.length=zbl l l.length:=by
   rw [zeu m m.length hl fun j h1 h2=>by rw [<-h j,List.getD_eq_getElem?_getD,List.getElem?_eq_none h1];rfl];exact zex _ fun k _=>(h k).symm
  have hle:=zeB l l.length;unfold zt;rw [e];apply List.ext_getElem
  ·rw [List.length_take,List.length_take];omega
  ·intro j h1 h2
   rw [List.length_take]at h1 h2;have g:=h j;rw [List.getD_eq_getElem?_getD,List.getD_eq_getElem?_getD,zzq4 (by omega),zzq4 (by omega)]at g
   simpa using g
 rcases Nat.le_total l.length m.length with c|c
 ·exact key l m c h
 ·exact(key m l c fun j=>(h j).symm).symm
theorem zeN: ∀(l m:List Int) (j:Nat),(zH l m).getD j 0=if j<l.length/\j<m.length then zK (l.getD j 0) (m.getD j 0)else 0
 |[],m,j=>by simp [zH]
 |a::l,[],j=>by simp [zH]
 |a::l,b::m,0=>by simp [zH]
 |a::l,b::m,j+1=>by
  have:=zeN l m j;simp only [zH,List.getD_cons_succ,List.length_cons,Nat.add_lt_add_iff_right];exact this
theorem zcP: ∀(l m:List Int),(zH l m).length=min l.length m.length
 |[],m=>by simp [zH]
 |a::l,[]=>by simp [zH]
 |a::l,b::m=>by simp only [zH,List.length_cons,zcP l m];omega
theorem zes: ∀(l m:List Int),zH (zH l m) m=zH l m
 |[],_=>rfl
 |_::_,[]=>rfl
 |a::l,b::m=>by simp only [zH];rw [zew,zes l m]
theorem zfu (l:List Int) {j:Nat} (h:l.length<=j):l.getD j 0=0:=by rw [List.getD_eq_getElem?_getD,List.getElem?_eq_none h];rfl
theorem zhm (a:Int):zK a 0=0:=by
 unfold zK;by_cases h:a=0<;>simp [h]
theorem zdt (l m:List Int) (j:Nat):(zH l m).getD j 0=zK (l.getD j 0) (m.getD j 0):=by
 rw [zeN];by_cases c1:j<l.length
 ·by_cases c2:j<m.length
  ·rw [if_pos ⟨c1,c2⟩]
  ·rw [if_neg (fun h=>c2 h.2),zfu m (by omega),zhm]
 ·rw [if_neg (fun h=>c1 h.1),zfu l (by omega),zh5]
theorem zho (a s:VSt):zbu (zbu a s) s=zbu a s:=by
 unfold zbu
 have hx:zt (zH (zt (zH a.x s.x)) s.x)=zt (zH a.x s.x):=by
  rw [show zt (zH a.x s.x)=zt (zH a.x s.x)from rfl];apply zg1;intro j;rw [zdt,zfG,zdt,zew]
 simp only [hx,zes,Bool.and_assoc,Bool.and_self]
theorem zdE {s:VSt}: ∀{l:List VSt} {w:Int},(∀t∈l,zJ s t=0\/w≠0/\w<=zJ s t)->zn s l w=w
 |[],_,_=>rfl
 |t::l,w,h=>by
  have e:zbK s w t=w:=by
   unfold zbK;rcases h t List.mem_cons_self with c|⟨c1,c2⟩
   ·rw [if_neg (fun g=>g.1 c)]
   ·rw [if_neg (fun g=>by rcases g.2 with g|g<;>omega)]
  show zn s l (zbK s w t)=w;rw [e];exact zdE fun t ht=>h t (zzh _ ht)
theorem zdG {s:VSt}: ∀(l:List VSt) (w:Int),(w≠0->zn s l w≠0/\zn s l w<=w)/\ ∀t∈l,zJ s t=0\/zn s l w≠0/\zn s l w<=zJ s t
 |[],w=>⟨fun h=>⟨h,Int.le_refl _⟩,fun t h=>absurd h List.not_mem_nil⟩
 |t::l,w=>by
  have ih:=zdG (s:=s) l (zbK s w t);have hw:zbK s w t=if zJ s t≠0/\(w=0\/zJ s t<w)then zJ s t else w:=rfl
  refine⟨fun h=>?_,fun t' ht=>?_⟩
  ·show zn s l (zbK s w t)≠0/\zn s l (zbK s w t)<=w
   have:zbK s w t≠0/\zbK s w t<=w:=by
    rw [hw];split<;>omega
   have:=ih.1 this.1;omega
  ·show zJ s t'=0\/zn s l (zbK s w t)≠0/\zn s l (zbK s w t)<=zJ s t'
   rcases List.mem_cons.1 ht with r|r
   ·subst r
    by_cases c:zJ s t'=0
    ·exact .inl c
    ·have:zbK s w t'≠0/\zbK s w t'<=zJ s t':=by
      rw [hw];split<;>omega
     have:=ih.1 this.1;exact .inr (by omega)
   ·exact ih.2 t' r
theorem zdL: ∀l:List Int,zH l l=l
 |[]=>rfl
 |a::l=>by simp only [zH];rw [zdL l];simp [zK]
theorem zie {s:VSt} (h:zt s.x=s.x):zbu s s=s:=by
 unfold zbu;rw [zdL,zdL,h,Bool.and_self]
theorem zjs (m:Option VM) (s:VSt) (h:zt s.x=s.x):zcJ (zcJ m s) s=zcJ m s:=by
 have hc:zJ s s=0:=clash_zero.2 ⟨rfl,rfl,rfl,rfl⟩
 cases m with
 |none=>
  have h1:zn s [s] 0=0:=zdE fun t ht=>.inl (by rw [List.mem_singleton.1 ht];exact hc)
  have h2:zP s [s]=true:=by simp [zP,hc]
  show some (VM.mk (if zn s [s] 0=0 then zbu s s else s) (if zP s [s]=true then [s]else [s]++ [s]) (zn s [s] 0))=some ⟨s,[s],0⟩;rw [if_pos h2,h1,if_pos rfl,zie h]
 |some m=>
  have hall: ∀t∈(if zP s m.all=true then m.all else m.all++ [s]),zJ s t=0\/zn s m.all m.wrong≠0/\zn s m.all m.wrong<=zJ s t:=by
   intro t ht;split at ht
   ·exact(zdG m.all m.wrong).2 t ht
   ·rcases List.mem_append.1 ht with g|g
    ·exact(zdG m.all m.wrong).2 t g
    ·rw [List.mem_singleton.1 g];exact .inl hc
  have h1:=zdE hall
  have h2:zP s (if zP s m.all=true then m.all else m.all++ [s])=true:=by
   by_cases k:zP s m.all=true
   ·rw [if_pos k];exact k
   ·rw [if_neg k];unfold zP;rw [List.any_append,Bool.or_eq_true];right;simp [hc]
  show some (VM.mk (if zn s (if zP s m.all=true then m.all else m.all++ [s]) (zn s m.all m.wrong)=0 then zbu (if zn s m.all m.wrong=0 then zbu m.st s else m.st) s else(if zn s m.all m.wrong=0 then zbu m.st s else m.st))
   (if zP s (if zP s m.all=true then m.all else m.all++ [s])=true then(if zP s m.all=true then m.all else m.all++ [s])else(if zP s m.all=true then m.all else m.all++ [s])++ [s])
   (zn s (if zP s m.all=true then m.all else m.all++ [s]) (zn s m.all m.wrong)))=some (VM.mk (if zn s m.all m.wrong=0 then zbu m.st s else m.st) (if zP s m.all=true then m.all else m.all++ [s]) (zn s m.all m.wrong))
  rw [h1,if_pos h2];by_cases c:zn s m.all m.wrong=0
  ·rw [if_pos c,if_pos c,zho]
  ·rw [if_neg c,if_neg c]
theorem zO {a b:Int} (h:a=b):Ending.returned (.int .i64 a)= .returned (.int .i64 b):=by rw [h]
theorem zfT (a b:Int) (w:World):
  Calls Tryz.prog 130 #[.int .i64 a,.int .i64 b] w fun e w'=>e= .returned (.int .i64 (zK a b))/\w'=w:=by
 by_cases h1:a=b
 ·have E:Hid (zK a b=a):=zzH (by unfold zK;rw [if_pos h1])
  have t1:(a==b)=true:=zzl.2 h1;clear h1;exact zz73
 ·have t1:(a==b)=false:=zzB.2 h1
  by_cases h2:a=0
  ·have E:Hid (zK a b=0):=zzH (by unfold zK;rw [if_neg h1,if_pos (.inl h2)])
   have t2:(a==0)=true:=zzl.2 h2;clear h1 h2;exact zz73
  ·have t2:(a==0)=false:=zzB.2 h2
   by_cases h3:b=0
   ·have E:Hid (zK a b=0):=zzH (by unfold zK;rw [if_neg h1,if_pos (.inr h3)])
    have t3:(b==0)=true:=zzl.2 h3;clear h1 h2 h3;exact zz73
   ·have t3:(b==0)=false:=zzB.2 h3
    have hz: ¬(a=0\/b=0):=fun h=>h.elim h2 h3
    by_cases h4:3<=a
    ·have t4:decide (3<=a)=true:=zzT h4
     by_cases h5:3<=b
     ·have E:Hid (zK a b=min a b):=zzH (by unfold zK;rw [if_neg h1,if_neg hz,if_pos ⟨h4,h5⟩])
      have t5:decide (3<=b)=true:=zzT h5;clear h1 h2 h3 h4 h5 hz;go_in;go_wp2_with fail
      all_goals
       go_ret;exact⟨zO (by rw [E.out]<;>omega),rfl⟩
     ·have E:Hid (zK a b=1):=zzH (by unfold zK;rw [if_neg h1,if_neg hz,if_neg (fun h=>h5 h.2)])
      have t5:decide (3<=b)=false:=zzD h5;clear h1 h2 h3 h4 h5 hz;exact zz73
    ·have E:Hid (zK a b=1):=zzH (by unfold zK;rw [if_neg h1,if_neg hz,if_neg (fun h=>h4 h.1)])
     have t4:decide (3<=a)=false:=zzD h4;clear h1 h2 h3 h4 hz;exact zz73
theorem zbp (b:Bool) (e:Int) (w:World):
  Calls Tryz.prog 93 #[.bool b,.int .i64 e] w fun e' w'=>e'= .returned (.int .i64 (if b=true then e else 0))/\w'=w:=by
 cases b with
 |false=>
  go_in;exact zz20
 |true=>
  go_in;exact zz20
theorem zds (op:Int) (w:World):
  Calls Tryz.prog 95 #[.int .i64 op] w fun e w'=>e= .returned (.bool (zbY op))/\w'=w:=by
 by_cases h:op=26\/op=17\/op=19\/op=21\/op=23
 ·rcases h with rfl|rfl|rfl|rfl|rfl
  all_goals
   go_in;go_wp2;go_ret;exact⟨rfl,rfl⟩
 ·have E:Hid (zbY op=false):=zzH (zzD h)
  have t1:(op==26)=false:=by rw [zzq1];omega
  have t2:(op==17)=false:=by rw [zzq1];omega
  have t3:(op==19)=false:=by rw [zzq1];omega
  have t4:(op==21)=false:=by rw [zzq1];omega
  have t5:(op==23)=false:=by rw [zzq1];omega
  clear h;exact zz57
theorem zg8 (op:Int) (w:World):
  Calls Tryz.prog 136 #[.int .i64 op] w fun e w'=>e= .returned (.bool (zcu op))/\w'=w:=by
 by_cases h:op=2\/op=3\/op=4\/op=13\/op=14\/op=31\/op=32\/op=33\/op=35
 ·rcases h with rfl|rfl|rfl|rfl|rfl|rfl|rfl|rfl|rfl
  all_goals
   go_in;go_wp2;go_ret;exact⟨rfl,rfl⟩
 ·have E:Hid (zcu op=false):=zzH (zzD (by simpa using h))
  have t1:(op==2)=false:=by rw [zzq1];omega
  have t2:(op==3)=false:=by rw [zzq1];omega
  have t3:(op==4)=false:=by rw [zzq1];omega
  have t4:(op==13)=false:=by rw [zzq1];omega
  have t5:(op==14)=false:=by rw [zzq1];omega
  have t6:(op==31)=false:=by rw [zzq1];omega
  have t7:(op==32)=false:=by rw [zzq1];omega
  have t8:(op==33)=false:=by rw [zzq1];omega
  have t9:(op==35)=false:=by rw [zzq1];omega
  clear h;exact zz57
theorem zg3 (op:Int) (w:World):
  Calls Tryz.prog 103 #[.int .i64 op] w fun e w'=>e= .returned (.bool (zbi op))/\w'=w:=by
 by_cases h:op=8\/op=39\/op=12\/op=27
 ·rcases h with rfl|rfl|rfl|rfl
  all_goals
   go_in;go_wp2;go_ret;exact⟨rfl,rfl⟩
 ·have E:Hid (zbi op= !zbY op):=zzH (by unfold zbi;rw [decide_eq_false h,zzq8])
  have t1:(op==8)=false:=by rw [zzq1];omega
  have t2:(op==39)=false:=by rw [zzq1];omega
  have t3:(op==12)=false:=by rw [zzq1];omega
  have t4:(op==27)=false:=by rw [zzq1];omega
  clear h;go_in;go_wp2_with (go_at_call 95;refine(zds _ _).mono ?_;rintro e w1 ⟨rfl,rfl⟩);go_ret;exact⟨zi E.out.symm,rfl⟩
def IntsAt (w:World) (ao:Option Addr) (l:List Int):Prop:=
 l= []\/ ∃b off cs fr,ao=some ⟨b,off,none⟩/\w.heap[b]?=some (.cells cs 3 fr)/\ ∀j (h:j<l.length),cs[off+j]?=some (.int .i64 l[j])
def KeepT (w w':World):Prop:=w.heap.size<=w'.heap.size/\ ∀(k:Nat) (cs:Array Value) (t:TypeId) (fr:Nat × Nat),w.heap[k]?=some (Obj.cells cs t fr)->t≠86->t≠83->w'.heap[k]?=some (Obj.cells cs t fr)
theorem KeepT.refl (w:World):KeepT w w:=⟨zzL _,fun _ _ _ _ h _ _=>h⟩
theorem KeepT.trans {a b c:World} (h:KeepT a b) (k:KeepT b c):KeepT a c:=⟨zzY h.1 k.1,fun j cs t fr x y z=>k.2 j cs t fr (h.2 j cs t fr x y z) y z⟩
theorem KeepT.below {w w':World} (h:Below w.heap.size w w'):KeepT w w':=⟨h.size,fun k cs t fr x _ _=>(h.block k (zb x)).trans x⟩
theorem IntsAt.keep {w w':World} {ao:zzA} {l:List Int} (h:IntsAt w ao l) (k:KeepT w w'):IntsAt w' ao l:=
 h.imp id fun⟨b,off,cs,fr,e,hb,hr⟩=>⟨b,off,cs,fr,e,k.2 b cs _ fr hb (by decide) (by decide),hr⟩
theorem IntsAt.below {w w':World} {ao:zzA} {l:List Int} (h:IntsAt w ao l) (k:Below w.heap.size w w'):IntsAt w' ao l:=h.keep (.below k)
theorem IntsAt.nil (w:World) (ao:zzA):IntsAt w ao []:=.inl rfl
theorem IntsAt.take {w:World} {ao:zzA} {l:List Int} (h:IntsAt w ao l) (n:Nat):IntsAt w ao (l.take n):=
 h.elim (fun e=>.inl (by rw [e,List.take_nil])) fun⟨b,off,cs,fr,e,hb,hr⟩=>.inr ⟨b,off,cs,fr,e,hb,fun j hj=>by
  rw [List.length_take]at hj;rw [hr j (by omega),List.getElem_take]⟩
theorem IntsAt.cell {w:World} {ao:zzA} {l:List Int} (h:IntsAt w ao l) {k:Nat} (hk:k<l.length):
  ∃b off,ao=some ⟨b,off,none⟩/\b<w.heap.size/\w.cell? ⟨b,off+k,none⟩=some (.int .i64 (l.getD k 0)):=by
 rcases h with h|⟨b,off,cs,fr,e,hb,hr⟩
 ·exact zz1
 ·refine⟨b,off,e,zb hb,?_⟩
  rw [zzq0 _ _ _ _ _ _ hb,hr k hk,List.getD_eq_getElem?_getD,zzq4 hk];rfl
theorem zeq:(Tryz.prog.info? 3).map (fun i=>(i.zero,i.size,i.bytes))=some (some (.int .i64 0),1,8):=by kernel_rfl
theorem zgO (n:Nat) (hn:n<=1000000): ∃arr:Array Value,arr.size=n/\ ∀wx:World,(Instr.makeSlice 38 (.int .i64 (n:Int)) (.int .i64 (n:Int))).run Tryz.prog wx= .ok (.slice (some ⟨wx.heap.size,0,none⟩) n n) (wx.alloc (.cells arr 3)):=by
 obtain⟨i0,hi,hz0,hz1,hz2⟩:=info_parts zeq;refine⟨madeCells (Value.int .i64 0).cells (n*i0.size),by rw [size_madeCells,hz1,Nat.mul_one],fun wx=>?_⟩;have:=run_make (P:=Tryz.prog) wx 38 3 i0 _ Tryz.underlying38 hi hz0 .i64 .i64 n n (by omega) (Int.le_refl _) (by rw [hz2];omega) (by omega)
 simpa only [zzq13] using this
theorem zm {w:World} {B k:Nat} {arr:Array Value} {t:TypeId} {fr:Nat × Nat} (h:w.heap[B]?=some (.cells arr t fr)) (hk:k<arr.size):w.cell? ⟨B,k,none⟩=some arr[k]:=by
 rw [zzq0 _ _ _ _ _ _ h,Array.getElem?_eq_getElem hk]
theorem zdp (n:Nat):(zbC (n:Int)).length=n:=by unfold zbC;simp
theorem zgX {ao:zzA} {m n c:Nat} (h:m=n):Ending.returned (.slice ao m c)= .returned (.slice ao n c):=by rw [h]
def HoldsI (arr:Array Value) (k:Nat) (f:Nat->Int):Prop:= ∀j,j<k->arr[j]?=some (.int .i64 (f j))
theorem HoldsI.set {arr:Array Value} {k:Nat} {f:Nat->Int} (h:HoldsI arr k f) (hk:k<arr.size):HoldsI (arr.setIfInBounds k (.int .i64 (f k))) (k+1) f:=by
 intro j hj;rw [zzq7];by_cases c:k=j
 ·subst c;rw [if_pos rfl,if_pos hk]
 ·rw [if_neg c];exact h j (by omega)
theorem zcS (n:Int) (w:World) (hn:0<=n/\n<=1000000):
  Calls Tryz.prog 88 #[.int .i64 n] w fun e w'=>(∃ao c,e= .returned (.slice ao (zbC n).length c)/\IntsAt w' ao (zbC n)/\(zbC n).length<=c)/\Below w.heap.size w w':=by
 obtain⟨n,rfl⟩:=zzJ hn.1;obtain⟨arr,ha,hmk⟩:=zgO n (by omega);have hB0:Below w.heap.size w (w.alloc (.cells arr 3)):=zzE _ _;have hrow:(w.alloc (.cells arr 3)).heap[w.heap.size]?=some (.cells arr 3 (0,0)):=zzF _ _
 have hn2:n<=1000000:=by omega
 clear hn;go_in;go_wp2_with fail;generalize w.alloc (.cells arr 3)=W at *;refine zzK3 hrow hB0 ha fun HR HB HA=>?_;clear hmk hrow hB0 ha;generalize hD:w.heap.size=B at *;go_loopw [4,9] (fun _ iv wr=> ∃(k:Nat) (ar:Array Value),k<=n/\iv= .int .i64 k/\Hid (wr.heap[B]?=some (.cells ar 3 (0,0))/\ar.size=n/\HoldsI ar k (fun _=>1))/\Below B w wr) (fun _ iv _=>n-(intOf iv).toNat)
 case atStart=>exact⟨0,arr,zzZ _,rfl,zzH ⟨HR.out,HA.out,fun j hj=>absurd hj (zzC j)⟩,HB.out⟩
 case round=>
  obtain⟨k,ar,hk,rfl,HK,hB⟩:=hrel;rename World=>wr
  by_cases hlt:k<n
  ·have hc:=zm HK.out.1 (k:=k) (by rw [HK.out.2.1];exact hlt)
   have hf:wr.frozen? ⟨B,k,none⟩=false:=zzq2 _ _ _ _ _ HK.out.1;go_wp2_with fail;go_roundw
   case rel=>
    refine⟨k+1,_,hlt,by go_num,zzH ⟨zzS _ _ _ _ _ _ HK.out.1,?_,HK.out.2.2.set (f:=fun _=>1) (by rw [HK.out.2.1];exact hlt)⟩,hB.setCell (p:=⟨B,k,none⟩) (zzL _) _⟩;rw [Array.size_setIfInBounds];exact HK.out.2.1
   case measure=>simp [intOf];omega
  ·obtain rfl:k=n:=by omega
   go_wp2;go_ret;refine⟨⟨_,k,zgX (zdp k).symm,.inr ⟨B,0,ar,(0,0),rfl,HK.out.1,fun j hj=>?_⟩,Nat.le_of_eq (zdp k)⟩,by rw [hD];exact hB⟩;rw [zdp]at hj;rw [Nat.zero_add,HK.out.2.2 j hj];unfold zbC;simp
theorem zd1 (l:List Int) (ao:zzA) (c:Nat) (w:World) (h:IntsAt w ao l) (hl:l.length<=maxLen) (hc:l.length<=c):
  Calls Tryz.prog 131 #[.slice ao l.length c] w fun e w'=>e= .returned (.slice ao (zt l).length c)/\Below w.heap.size w w':=by
 have HH:=zzH h;unfold maxLen at hl;have E0:Hid ((zt l).length=zbl l l.length):=zzH (by unfold zt;rw [List.length_take];have:=zeB l l.length;omega);clear h;generalize hn:l.length=n at *;have hn':n<=l.length:=by omega
 clear hn;generalize(zt l).length=R at *;go_in;go_wp2_with fail;go_loopw [0] (fun v wr=> ∃k:Nat,k<=n/\v= .slice ao k c/\Hid (zbl l n=zbl l k)/\Below w.heap.size w wr) (fun v _=>match v with|.slice _ k _=>k|_=>0)
 case atStart=>exact⟨n,zzL _,rfl,zzH rfl,zzR _ _⟩
 case round=>
  obtain⟨k,hk,rfl,HK,hB⟩:=hrel;rename World=>wr
  cases k with
  |zero=>
   have E:Hid (R=0):=zzH (by rw [E0.out,HK.out];rfl);go_wp2;go_ret;exact⟨zgX E.out.symm,hB⟩
  |succ k=>
   obtain⟨b,off,hao,hlt,q0⟩:=(HH.out.below hB).cell (k:=k) (by omega);subst hao;generalize hv:l.getD k 0=v at *;have hw1:IntKind.i64.wrap (((k+1:Nat):Int)-1)=(k:Int):=by rw [zzq5];omega
   by_cases c0:v=0
   ·have HK2:Hid (zbl l n=zbl l k):=zzH (by rw [HK.out,zbl,if_pos (by rw [hv];exact c0)])
    have t0:(v==0)=true:=zzl.2 c0;clear c0 hv HK;go_wp2_with fail;exact⟨⟨k,by omega,rfl,HK2,hB⟩,Nat.lt_succ_self k⟩
   ·have E:Hid (R=k+1):=zzH (by rw [E0.out,HK.out,zbl,if_neg (by rw [hv];exact c0)])
    have t0:(v==0)=false:=zzB.2 c0;clear c0 hv HK;go_wp2;go_ret;exact⟨zgX E.out.symm,hB⟩
end Go.Proofs.YtepjanajflkakaaGreatDoor
