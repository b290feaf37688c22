import Derived.IntWalk
import Derived.Below
import Derived.Laws.Wrap64
import Derived.WalkKit
import Derived.ChangeArms
import Derived.DataReads
import Derived.Lib.Hide
import Derived.WalkSpells
import Derived.WalkLawsBesides
import Derived.Handy
import Derived.Deep.QuietTactic
import Derived.BigQuiet
import Derived.Laws.ResultCell
import Derived.Laws.Rows
import Derived.Deep.RegionHeld3
import Derived.Deep.DeepCutAuto
import Derived.Deep.CutBlock
import Derived.Maps.OwnOps
import Derived.Maps.OwnSet
import Derived.Maps.Views
import Derived.DeepKeys4
import Derived.WideKeyPair
import Derived.Laws.RangeAny
import Derived.Laws.RangeString
import Derived.RegionTactic
import Derived.BigRegion
import Derived.Laws.EntriesVeiled
import Derived.Shelf.Small.Bits
import Derived.Shelf.Small.Strs
import Derived.Shelf.Small.Wraps
import Derived.Shelf.Strconv.Itoa0
import Derived.Shelf.Strings.Search1
import Derived.Shelf.Strings.Search2
import Derived.Shelf.Strings.Search3
import Derived.Shelf.LaysM
import Derived.Shelf.Strings.Shaped
import Derived.Shelf.Sort.Plain
import Derived.Shelf.Strings.Fields
import Derived.Shelf.Strings.SplitShaped
import Derived.Shelf.Unicode.Latin
import Derived.Shelf.Unicode.Is16White
import Derived.Shelf.Unicode.IsSpaceAny
import Derived.Shelf.Unicode.Is16Any
import Derived.Shelf.Unicode.Is32Any
import Derived.Shelf.Unicode.ExclAny
import Derived.Shelf.Slices.Equal
import Derived.Ground.Names2Prog
import Derived.Shelf.Slices.Clone
import Derived.Shelf.Slices.CompactI
import Derived.Shelf.Slices.SearchI
import Derived.Shelf.Slices.Cells
import Derived.Shelf.Slices.In.SortNone
import Derived.Shelf.Slices.Empties2
import Derived.Ground.SlgnProg
import Derived.Shelf.SlicesE.Clone
import Derived.Lib.SmallJoins
import Derived.Laws.AppendOwn
import Derived.Laws.NewBlocks
import Derived.Laws.Tables
import Derived.Deep.AppendLies
import Derived.Laws.OwnMore
import Derived.Laws.MakeOwn
import Derived.RangeFuncBox
import Derived.RangeFuncLeaves
import Derived.Shelf.Abstract
import Derived.OwnWalkIn
import Derived.TacticsInMore
import Derived.LoopNIn
import Derived.LoopIn
import Derived.Maps.AppendAt
import Derived.RangeFuncNested
import Derived.Sort.OwnSortedInts
import Derived.StillTailTactics
import Derived.Deep.Cut
import Derived.Deep.Upon
import Derived.Laws.CopyOwn
import Derived.OrdersHeld
import Derived.Deep.RegionHeld
import Derived.KernelRfl
import Derived.Tactics
import Derived.Great.BuildSlice
import Derived.Orders
import Derived.Laws.IdiomStrings
import Derived.Lib.LaidU8
import Derived.Stop.LaidErr
import Derived.Deep.DeepHandedRow
import Derived.Deep.DeepLaidRun
import Derived.Deep.DeepWitnessRowRef
import Derived.ProofKit
import Derived.OpenShut
import Derived.ShutString
import Derived.Test.YthajedcbgnloeaaGreatDoorProg
namespace Go.Proofs.YthajedcbgnloeaaGreatDoor
open Go.RowKit
set_option linter.unusedVariables false
set_option linter.unusedSimpArgs false
set_option maxRecDepth 100000
set_option maxHeartbeats 0
theorem zzK3{p0 p1 p2 G:Prop}(a0:p0)(a1:p1)(a2:p2)(h:Hid p0->Hid p1->Hid p2->G):G:=h a0 a1 a2
theorem zzK4{p0 p1 p2 p3 G:Prop}(a0:p0)(a1:p1)(a2:p2)(a3:p3)(h:Hid p0->Hid p1->Hid p2->Hid p3->G):G:=h a0 a1 a2 a3
theorem zzK5{p0 p1 p2 p3 p4 G:Prop}(a0:p0)(a1:p1)(a2:p2)(a3:p3)(a4:p4)(h:Hid p0->Hid p1->Hid p2->Hid p3->Hid p4->G):G:=h a0 a1 a2 a3 a4
theorem zzK6{p0 p1 p2 p3 p4 p5 G:Prop}(a0:p0)(a1:p1)(a2:p2)(a3:p3)(a4:p4)(a5:p5)(h:Hid p0->Hid p1->Hid p2->Hid p3->Hid p4->Hid p5->G):G:=h a0 a1 a2 a3 a4 a5
theorem zzK7{p0 p1 p2 p3 p4 p5 p6 G:Prop}(a0:p0)(a1:p1)(a2:p2)(a3:p3)(a4:p4)(a5:p5)(a6:p6)(h:Hid p0->Hid p1->Hid p2->Hid p3->Hid p4->Hid p5->Hid p6->G):G:=h a0 a1 a2 a3 a4 a5 a6
theorem zzK8{p0 p1 p2 p3 p4 p5 p6 p7 G:Prop}(a0:p0)(a1:p1)(a2:p2)(a3:p3)(a4:p4)(a5:p5)(a6:p6)(a7:p7)(h:Hid p0->Hid p1->Hid p2->Hid p3->Hid p4->Hid p5->Hid p6->Hid p7->G):G:=h a0 a1 a2 a3 a4 a5 a6 a7
theorem zzK9{p0 p1 p2 p3 p4 p5 p6 p7 p8 G:Prop}(a0:p0)(a1:p1)(a2:p2)(a3:p3)(a4:p4)(a5:p5)(a6:p6)(a7:p7)(a8:p8)(h:Hid p0->Hid p1->Hid p2->Hid p3->Hid p4->Hid p5->Hid p6->Hid p7->Hid p8->G):G:=h a0 a1 a2 a3 a4 a5 a6 a7 a8
theorem zzK10{p0 p1 p2 p3 p4 p5 p6 p7 p8 p9 G:Prop}(a0:p0)(a1:p1)(a2:p2)(a3:p3)(a4:p4)(a5:p5)(a6:p6)(a7:p7)(a8:p8)(a9:p9)(h:Hid p0->Hid p1->Hid p2->Hid p3->Hid p4->Hid p5->Hid p6->Hid p7->Hid p8->Hid p9->G):G:=h a0 a1 a2 a3 a4 a5 a6 a7 a8 a9
theorem zzK16{p0 p1 p2 p3 p4 p5 p6 p7 p8 p9 p10 p11 p12 p13 p14 p15 G:Prop}(a0:p0)(a1:p1)(a2:p2)(a3:p3)(a4:p4)(a5:p5)(a6:p6)(a7:p7)(a8:p8)(a9:p9)(a10:p10)(a11:p11)(a12:p12)(a13:p13)(a14:p14)(a15:p15)(h:Hid p0->Hid p1->Hid p2->Hid p3->Hid p4->Hid p5->Hid p6->Hid p7->Hid p8->Hid p9->Hid p10->Hid p11->Hid p12->Hid p13->Hid p14->Hid p15->G):G:=h a0 a1 a2 a3 a4 a5 a6 a7 a8 a9 a10 a11 a12 a13 a14 a15
abbrev zzA:=Option Addr
theorem zzE(w:World)(c:Obj):Below w.heap.size w (w.alloc c):=(Below.refl _ _).alloc (Nat.le_refl _) _
theorem zzV(n:Nat)(h:n<=9223372036854775807):IntKind.i64.wrap ((n:Int)-1)=(n:Int)-1:=by rw [IntKind.wrap_i64];omega
abbrev zzW:=@Nat.lt_of_lt_of_le
abbrev zzC:=@Nat.not_lt_zero
abbrev zzL:=@Nat.le_refl
theorem zzq0:type_of% @cell_of_row:=@cell_of_row
abbrev zzF:=@heap_alloc_new
theorem zz1{P:Prop}(h:P:=by
 go_wp2_with fail;go_round
 case rel=>exact⟨k+1,by omega,by go_num,rfl,rfl,HK2⟩
 case measure=>simp [intOf];omega):P:=h
abbrev zzR:=@Below.refl
abbrev zzH:=@Lib.hid
abbrev zzZ:=@Nat.zero_le
abbrev zzB:=@beq_eq_false_iff_ne
theorem zzq19:type_of% @ByteArray.toList_eq:=@ByteArray.toList_eq
theorem zzq1:type_of% @beq_eq_false_iff_ne.{0}:=@beq_eq_false_iff_ne
theorem zzq10:type_of% @List.drop_eq_nil_of_le.{0}:=@List.drop_eq_nil_of_le
theorem zz2{P:Prop}(h:P:=by
 go_wp2_with fail
 all_goals go_ret
 all_goals exact⟨zcF E.out.symm,hB.alloc hB.size _⟩):P:=h
abbrev zzD:=@decide_eq_false
abbrev zzT:=@decide_eq_true
theorem zz3{P:Prop}(h:P:=by
 by_cases h2:n<=b
 ·have E:=zzH (zd0 h1 h2)
  have d1:decide (a<=n)=true:=zzT h1;have d2:decide (n<=b)=true:=zzT h2;go_in;go_wp2;go_ret;exact⟨zl E.out.symm,rfl⟩
 ·have E:=zzH (zdx (n:=n) (a:=a) (b:=b) (fun h=>h2 h.2))
  have d1:decide (a<=n)=true:=zzT h1;have d2:decide (n<=b)=false:=zzD h2;go_in;go_wp2;go_ret;exact⟨zl E.out.symm,rfl⟩):P:=h
theorem zz4{P:Prop}(h:P:=by
 have E:=zzH (zdx (n:=n) (a:=a) (b:=b) (fun h=>h1 h.1));have d1:decide (a<=n)=false:=zzD h1;go_in;go_wp2;go_ret;exact⟨zl E.out.symm,rfl⟩):P:=h
theorem zz5{P:Prop}(h:P:=by
 go_in;go_wp2_with (go_at_call 47;refine(zK _ _ _ _).mono ?_;rintro e w1 ⟨rfl,rfl⟩);go_ret;exact⟨zl E.out.symm,hbe⟩):P:=h
theorem zz6{P:Prop}(h:P:=by
 go_wp2;go_ret;exact⟨zl E.out.symm,hbe⟩):P:=h
abbrev zze:=@Calls.quiet_of_same
theorem zzq2:type_of% @IntKind.wrap_i64:=@IntKind.wrap_i64
abbrev zzj:=@bodyPost_ret
theorem zz7{P:Prop}(h:P:=by
 go_in;go_wp2;refine zzj (zbn rfl _ _ _ w.heap.size _ _ _ _ rfl (zzF _ _) Tryz.underlying74 (by kernel_rfl)) rfl ?_;exact⟨rfl,zzE _ _⟩):P:=h
theorem zzc3{w:World}{B:Nat}{v0 v1 v2:Value}{l:List Value}{T:Nat}{o:Nat×Nat}(h:w.heap[B]?=some (.cells (v0::v1::v2::l).toArray T o)):w.cell? ⟨B,0,none⟩=some v0/\w.cell? ⟨B,1,none⟩=some v1/\w.cell? ⟨B,2,none⟩=some v2:=⟨zzq0 w B 0 _ _ _ h,zzq0 w B 1 _ _ _ h,zzq0 w B 2 _ _ _ h⟩
theorem zz8{P:Prop}(h:P:=by
 go_wp2_with fail;go_meet
 case rel=>exact⟨_,rfl,zzH (by rw [hq4];first|rfl|(simp;done)|(simp [bne];done)|(rw [Bool.eq_iff_iff];simp;done)|(rw [Bool.eq_iff_iff];simp;omega)),rfl⟩):P:=h
theorem zz9{P:Prop}(h:P:=by
 go_wp2;go_ret;exact⟨zl E.out.symm,hBW⟩):P:=h
abbrev zzM:=@List.getElem_mem
theorem zzq15:type_of% @Bool.true_and:=@Bool.true_and
abbrev zza:=@of_decide_eq_true
theorem zzq4:type_of% @Bool.and_eq_true:=@Bool.and_eq_true
theorem zzq9:type_of% @Bool.false_or:=@Bool.false_or
theorem zz14{P:Prop}(h:P:=by
 have q5:decide ((c:Int)<=57)=true:=by simp;omega
 have q6:((c:Int)==95)=false:=by simp;omega
 have q7:((c:Int)==64)=false:=by simp;omega
 have hok:Hid (zba 0 c=false):=zzH (by unfold zba;apply zzD;omega);have hok2:Hid (zba 0 s[0].toNat=false):=zzH (by rw [<-HR.out.1];exact hok.out);have HV:Hid (zy s=false):=zzH (HB.out hok2.out);clear HG HK HB HR hok hok2;go_wp2_with fail
 (try simp only [Exit.inBlock,Exit.then])
 go_ret;exact⟨zl HV.out.symm,zdy _ _ _⟩):P:=h
theorem zz12{P:Prop}(h:P:=by
 have q3:decide ((c:Int)<=90)=true:=by simp;omega
 have q4:decide ((48:Int)<=(c:Int))=true:=by simp;omega
 have q5:decide ((c:Int)<=57)=false:=by simp;omega
 have q6:((c:Int)==95)=false:=by simp;omega
 have q7:((c:Int)==64)=false:=by simp;omega
 have hok:Hid (zba 0 c=false):=zzH (by unfold zba;apply zzD;omega);have hok2:Hid (zba 0 s[0].toNat=false):=zzH (by rw [<-HR.out.1];exact hok.out);have HV:Hid (zy s=false):=zzH (HB.out hok2.out);clear HG HK HB HR hok hok2;go_wp2_with fail
 (try simp only [Exit.inBlock,Exit.then])
 go_ret;exact⟨zl HV.out.symm,zdy _ _ _⟩):P:=h
theorem zz15{P:Prop}(h:P:=by
 have hok2:Hid (zba 0 s[0].toNat=false):=zzH (by rw [<-HR.out.1];exact hok.out);have HV:Hid (zy s=false):=zzH (HB.out hok2.out);clear HG HK HB HR hok hok2;go_wp2_with fail
 (try simp only [Exit.inBlock,Exit.then])
 go_ret;exact⟨zl HV.out.symm,zdy _ _ _⟩):P:=h
theorem zz11{P:Prop}(h:P:=by
 have q2:decide ((65:Int)<=(c:Int))=true:=by simp;omega
 have q3:decide ((c:Int)<=90)=false:=by simp;omega
 have q4:decide ((48:Int)<=(c:Int))=true:=by simp;omega
 have q5:decide ((c:Int)<=57)=false:=by simp;omega
 have q6:((c:Int)==95)=false:=by simp;omega
 have q7:((c:Int)==64)=false:=by simp;omega
 have hok:Hid (zba 0 c=false):=zzH (by unfold zba;apply zzD;omega);have hok2:Hid (zba 0 s[0].toNat=false):=zzH (by rw [<-HR.out.1];exact hok.out);have HV:Hid (zy s=false):=zzH (HB.out hok2.out);clear HG HK HB HR hok hok2;go_wp2_with fail
 (try simp only [Exit.inBlock,Exit.then])
 go_ret;exact⟨zl HV.out.symm,zdy _ _ _⟩):P:=h
theorem zz197{P:Prop}(h:P:=by
 have q6:((c:Int)==95)=false:=by simp;omega
 have q7:((c:Int)==64)=false:=by simp;omega
 have q9:decide ((0:Int)<(pos:Int))=true:=by simp;omega
 have hok:Hid (zba pos c=false):=zzH (by unfold zba;apply zzD;omega);have hok2:Hid (zba pos s[pos].toNat=false):=zzH (by rw [<-HR.out.1];exact hok.out);have HV:Hid (zy s=false):=zzH (HB.out hok2.out);clear HG HK HB HR hok hok2;go_wp2_with fail
 (try simp only [Exit.inBlock,Exit.then])
 go_ret;exact⟨zl HV.out.symm,zdy _ _ _⟩):P:=h
theorem zz13{P:Prop}(h:P:=by
 have q6:((c:Int)==95)=false:=by simp;omega
 have q7:((c:Int)==64)=false:=by simp;omega
 have q9:decide ((0:Int)<(pos:Int))=true:=by simp;omega
 have hok:Hid (zba pos c=true):=zzH (by unfold zba;apply zzT;omega);have hok2:Hid (zba pos s[pos].toNat=true):=zzH (by rw [<-HR.out.1];exact hok.out);obtain rfl:=HR.out.2 hok2.out;have HG2:=zzH (HK.out hok2.out);clear HG HK HB HR hok hok2;go_wp2_with fail;go_roundw
 case rel=>exact⟨_,by omega,rfl,HG2⟩
 case measure=>simp;omega):P:=h
theorem zz16{P:Prop}(h:P:=by
 have hok2:Hid (zba pos s[pos].toNat=true):=zzH (by rw [<-HR.out.1];exact hok.out);obtain rfl:=HR.out.2 hok2.out;have HG2:=zzH (HK.out hok2.out);clear HG HK HB HR hok hok2;go_wp2_with fail;go_roundw
 case rel=>exact⟨_,by omega,rfl,HG2⟩
 case measure=>simp;omega):P:=h
theorem zz10{P:Prop}(h:P:=by
 have q2:decide ((65:Int)<=(c:Int))=true:=by simp;omega
 have q3:decide ((c:Int)<=90)=false:=by simp;omega
 have q4:decide ((48:Int)<=(c:Int))=true:=by simp;omega
 have q5:decide ((c:Int)<=57)=false:=by simp;omega
 have q6:((c:Int)==95)=false:=by simp;omega
 have q7:((c:Int)==64)=false:=by simp;omega
 have q9:decide ((0:Int)<(pos:Int))=true:=by simp;omega
 have hok:Hid (zba pos c=false):=zzH (by unfold zba;apply zzD;omega);have hok2:Hid (zba pos s[pos].toNat=false):=zzH (by rw [<-HR.out.1];exact hok.out);have HV:Hid (zy s=false):=zzH (HB.out hok2.out);clear HG HK HB HR hok hok2;go_wp2_with fail
 (try simp only [Exit.inBlock,Exit.then])
 go_ret;exact⟨zl HV.out.symm,zdy _ _ _⟩):P:=h
theorem zz202{P:Prop}(h:P:=by
 go_wp2_with fail
 (try simp only [Exit.inBlock,Exit.then])
 go_ret;exact⟨zl HV.out.symm,zdy _ _ _⟩):P:=h
theorem zzq5:type_of% @frozen_of_row:=@frozen_of_row
abbrev zzS:=@heap_setCell_same
theorem zz17{P:Prop}(h:P:=by
 go_in;go_wp2_with (go_at_call 171;first|((with_reducible refine(h0 _).mono ?_);rintro e w1 ⟨rfl,rfl⟩)|((with_reducible refine(h1 _).mono ?_);rintro e w1 ⟨rfl,rfl⟩));exact zzj (v:=.tuple #[.agg #[.int .i64 k,.int .i64 0,.int .i64 0,.string ⟨#[]⟩,.string f,.int .i64 a,.slice so l c,.string y,.int .i64 z],.bool (false)]) (by simp [results,Tryz.results170,go_sem]) rfl ⟨rfl,zZ _ _ _⟩):P:=h
theorem zz18{P:Prop}(h:P:=by
 obtain⟨q0,q1,q2,q3,q4,q5,q6,q7,q8,z0⟩:=zv r0';obtain⟨p0,p1,p2,p3,p4,p5,p6,p7,p8,z1⟩:=zv r1';go_wp2_with fail;refine zzj (zbn rfl _ _ _ (B+1) _ _ _ _ rfl (zfP _ _ _ _ _ _ _ _ _ r1') Tryz.underlying110 (by kernel_rfl)) rfl ?_;exact⟨rfl,by rw [HBE.out];exact zej (Nat.le_succ _) hB' _ _ _ _ _ _ _ _ _⟩):P:=h
theorem zzq6:type_of% @heap_setCell_other:=@heap_setCell_other
theorem zz19{P:Prop}(h:P:=by
 go_upto_region 3 with(go_at_call 171;first|((with_reducible refine(h2 _).mono ?_);rintro e w1 ⟨rfl,rfl⟩));have r0':(((w6.setCell ⟨B,3,none⟩ (.string ⟨#[]⟩)).setCell ⟨B,4,none⟩ (.string ⟨#[]⟩)).setCell ⟨B,5,none⟩ (.int .i64 0)).heap[B]?=some (.cells #[.int .i64 k,.int .i64 i,.int .i64 g,.string ⟨#[]⟩,.string ⟨#[]⟩,.int .i64 0,.slice so l c,.string y,.int .i64 z] 110 (0,0)):=(zzS _ _ 5 _ _ (.int .i64 0) (zzS _ _ 4 _ _ (.string ⟨#[]⟩) (zzS _ _ 3 _ _ (.string ⟨#[]⟩) r0)))
 have r1':(((w6.setCell ⟨B,3,none⟩ (.string ⟨#[]⟩)).setCell ⟨B,4,none⟩ (.string ⟨#[]⟩)).setCell ⟨B,5,none⟩ (.int .i64 0)).heap[B+1]?=some (.cells zbH 110 (0,0)):=((zzq6 _ _ _ _ (by simp)).trans ((zzq6 _ _ _ _ (by simp)).trans ((zzq6 _ _ _ _ (by simp)).trans r1)))
 have hB':Below B w (((w6.setCell ⟨B,3,none⟩ (.string ⟨#[]⟩)).setCell ⟨B,4,none⟩ (.string ⟨#[]⟩)).setCell ⟨B,5,none⟩ (.int .i64 0)):=(((hB.setCell (zzL _) _).setCell (zzL _) _).setCell (zzL _) _);clear q0 q1 q2 q3 q4 q5 q6 q7 q8 z0 r0 r1 hB;generalize(((w6.setCell ⟨B,3,none⟩ (.string ⟨#[]⟩)).setCell ⟨B,4,none⟩ (.string ⟨#[]⟩)).setCell ⟨B,5,none⟩ (.int .i64 0))=w9 at *;obtain⟨q0,q1,q2,q3,q4,q5,q6,q7,q8,z0⟩:=zv r0';obtain⟨p0,p1,p2,p3,p4,p5,p6,p7,p8,z1⟩:=zv r1';go_wp2_with fail;refine zzj (zbn rfl _ _ _ (B+1) _ _ _ _ rfl (zfP _ _ _ _ _ _ _ _ _ r1') Tryz.underlying110 (by kernel_rfl)) rfl ?_;exact⟨rfl,by rw [HBE.out];exact zej (Nat.le_succ _) hB' _ _ _ _ _ _ _ _ _⟩):P:=h
abbrev zzb:=@Nat.le_of_lt
theorem zz20{P:Prop}(h:P:=by
 cases b0 with
 |false=>
  go_in;go_wp2_with (go_at_call 171;first|((with_reducible refine(h0 _).mono ?_);rintro e w1 ⟨rfl,rfl⟩)|((with_reducible refine(h1 _).mono ?_);rintro e w1 ⟨rfl,rfl⟩)|((with_reducible refine(h3 _).mono ?_);rintro e w1 ⟨rfl,rfl⟩));exact zzj (v:=.tuple #[.agg #[.int .i64 k,.int .i64 0,.int .i64 0,.string ⟨#[]⟩,.string f,.int .i64 0,.slice none 0 0,.string y,.int .i64 z],.bool (false)]) (by simp [results,Tryz.results175,go_sem]) rfl ⟨rfl,zZ _ _ _⟩
 |true=>
  cases b1 with
  |false=>
   go_in;go_wp2_with (go_at_call 171;first|((with_reducible refine(h0 _).mono ?_);rintro e w1 ⟨rfl,rfl⟩)|((with_reducible refine(h1 _).mono ?_);rintro e w1 ⟨rfl,rfl⟩)|((with_reducible refine(h3 _).mono ?_);rintro e w1 ⟨rfl,rfl⟩));exact zzj (v:=.tuple #[.agg #[.int .i64 k,.int .i64 0,.int .i64 0,.string ⟨#[]⟩,.string f,.int .i64 0,.slice none 0 0,.string y,.int .i64 z],.bool (false)]) (by simp [results,Tryz.results175,go_sem]) rfl ⟨rfl,zZ _ _ _⟩
  |true=>
   go_in;go_wp2_with (go_at_call 171;first|((with_reducible refine(h0 _).mono ?_);rintro e w1 ⟨rfl,rfl⟩)|((with_reducible refine(h1 _).mono ?_);rintro e w1 ⟨rfl,rfl⟩)|((with_reducible refine(h3 _).mono ?_);rintro e w1 ⟨rfl,rfl⟩));refine(h2 _).mono ?_;rintro e w7 ⟨rfl,hb5⟩;have r0:w7.heap[w.heap.size]?=some (.cells #[.int .i64 k,.int .i64 i,.int .i64 g,.string n,.string f,.int .i64 a,.slice so l c,.string y,.int .i64 z] 110 (0,0)):=(hb5.block _ (by simp;omega)).trans (zfy _ _ _)
   have r1:w7.heap[w.heap.size+1]?=some (.cells zbH 110 (0,0)):=(hb5.block _ (by simp)).trans (zeP _ _ _)
   have hB:Below w.heap.size w w7:=(zZ _ _ _).trans (hb5.mono (by simp;omega));clear hb5;generalize hBe:w.heap.size=B at *;have HBE:=zzH hBe;clear hBe;obtain⟨q0,q1,q2,q3,q4,q5,q6,q7,q8,z0⟩:=zv r0
   cases b2 with
   |false=>
    go_upto_region 3 with(go_at_call 171;first|((with_reducible refine(h0 _).mono ?_);rintro e w1 ⟨rfl,rfl⟩)|((with_reducible refine(h1 _).mono ?_);rintro e w1 ⟨rfl,rfl⟩)|((with_reducible refine(h3 _).mono ?_);rintro e w1 ⟨rfl,rfl⟩));have r0':(((((w7.setCell ⟨B,1,none⟩ (.int .i64 0)).setCell ⟨B,2,none⟩ (.int .i64 0)).setCell ⟨B,3,none⟩ (.string ⟨#[]⟩)).setCell ⟨B,5,none⟩ (.int .i64 0)).setCell ⟨B,6,none⟩ (.slice none 0 0)).heap[B]?=some (.cells #[.int .i64 k,.int .i64 0,.int .i64 0,.string ⟨#[]⟩,.string f,.int .i64 0,.slice none 0 0,.string y,.int .i64 z] 110 (0,0)):=(zzS _ _ 6 _ _ (.slice none 0 0) (zzS _ _ 5 _ _ (.int .i64 0) (zzS _ _ 3 _ _ (.string ⟨#[]⟩) (zzS _ _ 2 _ _ (.int .i64 0) (zzS _ _ 1 _ _ (.int .i64 0) r0)))))
    have r1':(((((w7.setCell ⟨B,1,none⟩ (.int .i64 0)).setCell ⟨B,2,none⟩ (.int .i64 0)).setCell ⟨B,3,none⟩ (.string ⟨#[]⟩)).setCell ⟨B,5,none⟩ (.int .i64 0)).setCell ⟨B,6,none⟩ (.slice none 0 0)).heap[B+1]?=some (.cells zbH 110 (0,0)):=((zzq6 _ _ _ _ (by simp)).trans ((zzq6 _ _ _ _ (by simp)).trans ((zzq6 _ _ _ _ (by simp)).trans ((zzq6 _ _ _ _ (by simp)).trans ((zzq6 _ _ _ _ (by simp)).trans r1)))))
    have hB':Below B w (((((w7.setCell ⟨B,1,none⟩ (.int .i64 0)).setCell ⟨B,2,none⟩ (.int .i64 0)).setCell ⟨B,3,none⟩ (.string ⟨#[]⟩)).setCell ⟨B,5,none⟩ (.int .i64 0)).setCell ⟨B,6,none⟩ (.slice none 0 0)):=(((((hB.setCell (zzL _) _).setCell (zzL _) _).setCell (zzL _) _).setCell (zzL _) _).setCell (zzL _) _);clear q0 q1 q2 q3 q4 q5 q6 q7 q8 z0 r0 r1 hB;generalize(((((w7.setCell ⟨B,1,none⟩ (.int .i64 0)).setCell ⟨B,2,none⟩ (.int .i64 0)).setCell ⟨B,3,none⟩ (.string ⟨#[]⟩)).setCell ⟨B,5,none⟩ (.int .i64 0)).setCell ⟨B,6,none⟩ (.slice none 0 0))=w9 at *;obtain⟨q0,q1,q2,q3,q4,q5,q6,q7,q8,z0⟩:=zv r0';obtain⟨p0,p1,p2,p3,p4,p5,p6,p7,p8,z1⟩:=zv r1';go_wp2_with fail;refine zzj (zbn rfl _ _ _ (B+1) _ _ _ _ rfl (zfP _ _ _ _ _ _ _ _ _ r1') Tryz.underlying110 (by kernel_rfl)) rfl ?_;exact⟨rfl,by rw [HBE.out];exact zej (Nat.le_succ _) hB' _ _ _ _ _ _ _ _ _⟩
   |true=>
    cases b3 with
    |false=>
     go_upto_region 3 with(go_at_call 171;first|((with_reducible refine(h0 _).mono ?_);rintro e w1 ⟨rfl,rfl⟩)|((with_reducible refine(h1 _).mono ?_);rintro e w1 ⟨rfl,rfl⟩)|((with_reducible refine(h3 _).mono ?_);rintro e w1 ⟨rfl,rfl⟩));have r0':(((((w7.setCell ⟨B,1,none⟩ (.int .i64 0)).setCell ⟨B,2,none⟩ (.int .i64 0)).setCell ⟨B,3,none⟩ (.string ⟨#[]⟩)).setCell ⟨B,5,none⟩ (.int .i64 0)).setCell ⟨B,6,none⟩ (.slice none 0 0)).heap[B]?=some (.cells #[.int .i64 k,.int .i64 0,.int .i64 0,.string ⟨#[]⟩,.string f,.int .i64 0,.slice none 0 0,.string y,.int .i64 z] 110 (0,0)):=(zzS _ _ 6 _ _ (.slice none 0 0) (zzS _ _ 5 _ _ (.int .i64 0) (zzS _ _ 3 _ _ (.string ⟨#[]⟩) (zzS _ _ 2 _ _ (.int .i64 0) (zzS _ _ 1 _ _ (.int .i64 0) r0)))))
     have r1':(((((w7.setCell ⟨B,1,none⟩ (.int .i64 0)).setCell ⟨B,2,none⟩ (.int .i64 0)).setCell ⟨B,3,none⟩ (.string ⟨#[]⟩)).setCell ⟨B,5,none⟩ (.int .i64 0)).setCell ⟨B,6,none⟩ (.slice none 0 0)).heap[B+1]?=some (.cells zbH 110 (0,0)):=((zzq6 _ _ _ _ (by simp)).trans ((zzq6 _ _ _ _ (by simp)).trans ((zzq6 _ _ _ _ (by simp)).trans ((zzq6 _ _ _ _ (by simp)).trans ((zzq6 _ _ _ _ (by simp)).trans r1)))))
     have hB':Below B w (((((w7.setCell ⟨B,1,none⟩ (.int .i64 0)).setCell ⟨B,2,none⟩ (.int .i64 0)).setCell ⟨B,3,none⟩ (.string ⟨#[]⟩)).setCell ⟨B,5,none⟩ (.int .i64 0)).setCell ⟨B,6,none⟩ (.slice none 0 0)):=(((((hB.setCell (zzL _) _).setCell (zzL _) _).setCell (zzL _) _).setCell (zzL _) _).setCell (zzL _) _);clear q0 q1 q2 q3 q4 q5 q6 q7 q8 z0 r0 r1 hB;generalize(((((w7.setCell ⟨B,1,none⟩ (.int .i64 0)).setCell ⟨B,2,none⟩ (.int .i64 0)).setCell ⟨B,3,none⟩ (.string ⟨#[]⟩)).setCell ⟨B,5,none⟩ (.int .i64 0)).setCell ⟨B,6,none⟩ (.slice none 0 0))=w9 at *;obtain⟨q0,q1,q2,q3,q4,q5,q6,q7,q8,z0⟩:=zv r0';obtain⟨p0,p1,p2,p3,p4,p5,p6,p7,p8,z1⟩:=zv r1';go_wp2_with fail;refine zzj (zbn rfl _ _ _ (B+1) _ _ _ _ rfl (zfP _ _ _ _ _ _ _ _ _ r1') Tryz.underlying110 (by kernel_rfl)) rfl ?_;exact⟨rfl,by rw [HBE.out];exact zej (Nat.le_succ _) hB' _ _ _ _ _ _ _ _ _⟩
    |true=>
     go_upto_region 3 with(go_at_call 171;first|((with_reducible refine(h0 _).mono ?_);rintro e w1 ⟨rfl,rfl⟩)|((with_reducible refine(h1 _).mono ?_);rintro e w1 ⟨rfl,rfl⟩)|((with_reducible refine(h3 _).mono ?_);rintro e w1 ⟨rfl,rfl⟩));have r0':(((((w7.setCell ⟨B,1,none⟩ (.int .i64 0)).setCell ⟨B,2,none⟩ (.int .i64 0)).setCell ⟨B,3,none⟩ (.string ⟨#[]⟩)).setCell ⟨B,5,none⟩ (.int .i64 0)).setCell ⟨B,6,none⟩ (.slice none 0 0)).heap[B]?=some (.cells #[.int .i64 k,.int .i64 0,.int .i64 0,.string ⟨#[]⟩,.string f,.int .i64 0,.slice none 0 0,.string y,.int .i64 z] 110 (0,0)):=(zzS _ _ 6 _ _ (.slice none 0 0) (zzS _ _ 5 _ _ (.int .i64 0) (zzS _ _ 3 _ _ (.string ⟨#[]⟩) (zzS _ _ 2 _ _ (.int .i64 0) (zzS _ _ 1 _ _ (.int .i64 0) r0)))))
     have r1':(((((w7.setCell ⟨B,1,none⟩ (.int .i64 0)).setCell ⟨B,2,none⟩ (.int .i64 0)).setCell ⟨B,3,none⟩ (.string ⟨#[]⟩)).setCell ⟨B,5,none⟩ (.int .i64 0)).setCell ⟨B,6,none⟩ (.slice none 0 0)).heap[B+1]?=some (.cells zbH 110 (0,0)):=((zzq6 _ _ _ _ (by simp)).trans ((zzq6 _ _ _ _ (by simp)).trans ((zzq6 _ _ _ _ (by simp)).trans ((zzq6 _ _ _ _ (by simp)).trans ((zzq6 _ _ _ _ (by simp)).trans r1)))))
     have hB':Below B w (((((w7.setCell ⟨B,1,none⟩ (.int .i64 0)).setCell ⟨B,2,none⟩ (.int .i64 0)).setCell ⟨B,3,none⟩ (.string ⟨#[]⟩)).setCell ⟨B,5,none⟩ (.int .i64 0)).setCell ⟨B,6,none⟩ (.slice none 0 0)):=(((((hB.setCell (zzL _) _).setCell (zzL _) _).setCell (zzL _) _).setCell (zzL _) _).setCell (zzL _) _);clear q0 q1 q2 q3 q4 q5 q6 q7 q8 z0 r0 r1 hB;generalize(((((w7.setCell ⟨B,1,none⟩ (.int .i64 0)).setCell ⟨B,2,none⟩ (.int .i64 0)).setCell ⟨B,3,none⟩ (.string ⟨#[]⟩)).setCell ⟨B,5,none⟩ (.int .i64 0)).setCell ⟨B,6,none⟩ (.slice none 0 0))=w9 at *;obtain⟨q0,q1,q2,q3,q4,q5,q6,q7,q8,z0⟩:=zv r0';obtain⟨p0,p1,p2,p3,p4,p5,p6,p7,p8,z1⟩:=zv r1';go_wp2_with fail;refine zzj (zbn rfl _ _ _ (B+1) _ _ _ _ rfl (zfP _ _ _ _ _ _ _ _ _ r1') Tryz.underlying110 (by kernel_rfl)) rfl ?_;exact⟨rfl,by rw [HBE.out];exact zej (Nat.le_succ _) hB' _ _ _ _ _ _ _ _ _⟩):P:=h
theorem zzq3:type_of% @List.getElem?_eq_getElem.{0}:=@List.getElem?_eq_getElem
theorem zz21{P:Prop}(h:P:=by
 go_in;go_wp2_with (go_at_call 171;refine(h0 _).mono ?_;rintro e w1 ⟨rfl,rfl⟩);exact zzj (v:=.tuple #[.agg #[.int .i64 k,.int .i64 i,.int .i64 g,.string n,.string f,.int .i64 a,.slice so l c,.string ⟨#[]⟩,.int .i64 0],.bool false]) (by simp [results,Tryz.results180,go_sem]) rfl ⟨rfl,zZ _ _ _⟩):P:=h
theorem zzq8:type_of% @decide_eq_true_eq:=@decide_eq_true_eq
theorem zz22{P:Prop}(h:P:=by
 simp only [zzq15,Bool.false_and,Bool.and_true,Bool.and_false]at E0;go_in;go_wp2;go_ret;exact⟨zl E0.out.symm,HBE.out⟩):P:=h
abbrev zzI:=@And.intro
theorem zz23{P:Prop}(h:P:=by
 rintro e w' ⟨rfl,hb'⟩;refine⟨so,c,?_,?_,hb'⟩
 ·(rw [e1,e2])<;>rfl
 ·rw [e1];exact hs):P:=h
theorem zz24{P:Prop}(h:P:=by
 have e1:zf t= .mk t.kind 0 0 ⟨#[]⟩ t.func t.arity t.items t.bytes t.bits:=by unfold zf;simp [hk]
 have e2:okK t=(wi t.int 1 2147483647&&wi t.gen 1 2147483647&&zy t.name):=by unfold okK;simp [hk]
 refine(znQ t.kind t.int t.gen t.name t.func t.arity so t.items.length c t.bytes t.bits w).mono ?_;rintro e w' ⟨rfl,hb'⟩;refine⟨so,c,?_,?_,hb'⟩
 ·(rw [e1,e2])<;>rfl
 ·rw [e1];exact hs):P:=h
theorem zz25{P:Prop}(h:P:=by
 rintro e w' ⟨rfl,hb'⟩;refine⟨none,0,?_,?_,hb'⟩
 ·(rw [e1,e2])<;>rfl
 ·rw [e1];exact SlAt.nil w0 9 _ none):P:=h
abbrev zzY:=@Nat.le_trans
theorem zz26{P:Prop}(h:P:=by
 go_in;go_wp2;go_ret;exact⟨zl E.out.symm,zcv H2.out _,s,Int.le_refl _,by omega,hm.below H2.out,fun h=>absurd (E.out.symm.trans h) (by decide)⟩):P:=h
theorem zz30{P:Prop}(h:P:=by
 go_wp2_with fail;go_meet
 case rel=>exact⟨_,so',c',rfl,rfl,hbb.size,hs',zzF _ _,hbb.alloc hbb.size _⟩):P:=h
theorem zz29{P:Prop}(h:P:=by
 go_wp2_with fail;go_meet
 case rel=>exact⟨_,so',c',rfl,rfl,zzL _,hs',zfP _ _ _ _ _ _ _ _ _ XL.out,zej (zzL _) hbb _ _ _ _ _ _ _ _ _⟩):P:=h
theorem zz27{P:Prop}(h:P:=by
 first|go_region_held3 (fun w'=>W2.heap.size<=w'.heap.size/\ ∀b o,b<W2.heap.size->w'.cell? ⟨b,o,none⟩=W2.cell? ⟨b,o,none⟩) (first|with_reducible exact HK5.out|with_reducible exact SK0.out|with_reducible exact zbI SK0.out|with_reducible exact SK1.out|with_reducible exact zbI HK5.out|with_reducible exact zdF HK5.out)
  ((go_at_call 170;refine(hQ _).mono ?_;rintro e w5 ⟨so',c',rfl,hs',hb5⟩;first|(have hbb:Below W2.heap.size W2 w5:=(by with_reducible exact ze HDR.out hb5);have HK5:=zzH (zby hbb))|(have hbb:Below W2.heap.size W2 w5:=(by with_reducible exact ze HDA.out hb5);have xl:w5.heap[W2.heap.size]?=some (.cells zbH 110 (0,0)):=(hb5.block W2.heap.size (zd HAN.out)).trans HAN.out;have XL:=zzH xl;obtain⟨l0,l1,l2,l3,l4,l5,l6,l7,l8,lz⟩:=zv xl;clear xl;have HK5:=zzH (zby hbb))))|fail
 ·go_wp2_with fail
  go_meet
  case rel=>exact⟨_,so',c',rfl,rfl,hbb.size,hs',zzF _ _,hbb.alloc hbb.size _⟩
 ·go_wp2_with fail
  go_meet
  case rel=>exact⟨_,so',c',rfl,rfl,zzL _,hs',zfP _ _ _ _ _ _ _ _ _ XL.out,zej (zzL _) hbb _ _ _ _ _ _ _ _ _⟩):P:=h
theorem zz28{P:Prop}(h:P:=by
 clear hR0 hR1 yz;generalize t.items.all (zh f)=al at *;generalize zbz (t.items.map (zr f))=sw at *;generalize zb0 (t.items.map (zR f))=sc at *
 cases al with
 |false=>
  go_wp2_with fail;refine hCF.mono ?_;rintro e w9 ⟨rfl,hg9,s',z1,z2,z3,z4⟩;go_wp2;go_ret;exact⟨zl EF.out.symm,zbP HG8.out hg9,s',by omega,by omega,z3,fun h=>absurd (EF.out.symm.trans h) (by decide)⟩
 |true=>
  go_wp2_with fail;refine hCF.mono ?_;rintro e w9 ⟨rfl,hg9,s',z1,z2,z3,z4⟩;go_wp2;go_ret;exact⟨zl EF.out.symm,zbP HG8.out hg9,s',by omega,by omega,z3,fun _=>by rw [EW.out,z4 (by trivial)];omega⟩):P:=h
theorem zz31{P:Prop}(h:P:=by
 have h:=(hB0r.cell (p:=⟨b1,off1+k*9+6,none⟩) hb1').symm.trans q6;rw [q6']at h;injection h with h;injection h with h1 h2;exact h1.symm):P:=h
theorem zz32{P:Prop}(h:P:=by
 go_wp2_with fail;go_roundw
 case rel=>exact⟨k+1,by omega,by go_num,HG5⟩
 case measure=>simp [intOf];omega):P:=h
abbrev zzf:=@Option.some.inj
theorem zz33{P:Prop}(h:P:=by
 go_in;go_wp2_with fail;refine hS.mono ?_;rintro e w5 ⟨rfl,hb5⟩;go_wp2;go_ret;exact⟨zcF E.out.symm,ze HB.out hb5⟩):P:=h
theorem zz36{P:Prop}(h:P:=by
 go_in;go_wp2_with fail;refine(hnm _).mono ?_;rintro e w5 ⟨rfl,hb5⟩;have d1:=(HU.out.below hb5).c1;have d2:=(HU.out.below hb5).c2;have d3:=(HU.out.below hb5).c3;have d4:=(HU.out.below hb5).c4;go_wp2;go_ret;exact⟨zl E.out.symm,hb5⟩):P:=h
theorem zz35{P:Prop}(h:P:=by
 have E:Hid (zP (f+1) u=false):=zzH (by rw [HE2.out,HNO.out (.inl (by rw [HFO.out];rfl))];rfl);go_wp2_with (go_at_call 47;first|((with_reducible refine(hwa _).mono ?_);rintro e w1 ⟨rfl,rfl⟩)|((with_reducible refine(hwe _).mono ?_);rintro e w1 ⟨rfl,rfl⟩));go_ret;exact⟨zl E.out.symm,HB6.out⟩):P:=h
theorem zz34{P:Prop}(h:P:=by
 have E:=zzH (HNO.out (by rw [HFB2.out];rfl));go_wp2_with (go_at_call 47;first|((with_reducible refine(hwa _).mono ?_);rintro e w1 ⟨rfl,rfl⟩)|((with_reducible refine(hwf _).mono ?_);rintro e w1 ⟨rfl,rfl⟩)|((with_reducible refine(hwe _).mono ?_);rintro e w1 ⟨rfl,rfl⟩));go_ret;exact⟨zl E.out.symm,HBX.out⟩):P:=h
theorem zz38{P:Prop}(h:P:=by
 have t1:(x.n==1)=true:=by rw [n1];rfl
 have E2:Hid (zi u.funcs.length u.funs x=true):=zzH (by rw [E.out,decide_eq_true n1];rfl);clear n1;go_in;go_wp2;go_ret;exact⟨zl E2.out.symm,zzR _ _⟩):P:=h
theorem zz37{P:Prop}(h:P:=by
 have t1:(x.n==1)=false:=zzB.2 n1;by_cases n8:x.n=8
 ·have t2:(x.n==8)=true:=by rw [n8];rfl
  have E2:Hid (zi u.funcs.length u.funs x=true):=zzH (by rw [E.out,decide_eq_true n8];simp);clear n1 n8;go_in;go_wp2;go_ret;exact⟨zl E2.out.symm,zzR _ _⟩
 ·have t2:(x.n==8)=false:=zzB.2 n8
  have E2:Hid (zi u.funcs.length u.funs x=false):=zzH (by rw [E.out,decide_eq_false n1,decide_eq_false n8];rfl);clear n1 n8;go_in;go_wp2;go_ret;exact⟨zl E2.out.symm,zzR _ _⟩):P:=h
theorem zz40{P:Prop}(h:P:=by
 exact this.mono fun _ _ ⟨a,b⟩=>⟨a,b.symm⟩):P:=h
theorem zz39{P:Prop}(h:P:=by
 clear hz hm;go_in;go_wp2_with fail;go_quiet ((go_at_call 47;exact zze (hwr _)));go_wp2;go_ret;exact⟨zl E3.out.symm,zm (zzR _ _) _⟩):P:=h
abbrev zzJ:=@Int.eq_ofNat_of_zero_le
theorem zzq11:type_of% @Int.toNat_natCast:=@Int.toNat_natCast
theorem zz41{P:Prop}(h:P:=by
 go_in;go_wp2;go_ret;exact⟨zl E.out.symm,rfl⟩):P:=h
theorem zzq16:type_of% @Bool.or_false:=@Bool.or_false
theorem zzq14:type_of% @Bool.true_or:=@Bool.true_or
theorem zzq13:type_of% @Bool.or_true:=@Bool.or_true
theorem zzq17:type_of% @heap_setCell_same:=@heap_setCell_same
theorem zzq20:type_of% @List.append_assoc.{0}:=@List.append_assoc
abbrev zzp:=@List.all_eq_true
theorem zzq12:type_of% @List.length_append.{0}:=@List.length_append
theorem zzX3:type_of% (And.intro @Bool.true_or (And.intro @Bool.or_true (And.intro @Bool.false_or (And.intro @Bool.or_false (And.intro @Bool.and_true (And.intro @Bool.and_false (And.intro @Bool.true_and (And.intro @Bool.false_and (And.intro @Bool.not_true @Bool.not_false))))))))):=And.intro @Bool.true_or (And.intro @Bool.or_true (And.intro @Bool.false_or (And.intro @Bool.or_false (And.intro @Bool.and_true (And.intro @Bool.and_false (And.intro @Bool.true_and (And.intro @Bool.false_and (And.intro @Bool.not_true @Bool.not_false))))))))
theorem zz43{P:Prop}(h:P:=by
 simp only [zzX3]at E0;go_in;go_wp2_with (first|(go_at_call 50;refine(hO _).mono ?_;rintro e w1 ⟨rfl,rfl⟩)|(go_at_call 51;refine hCl.mono ?_;rintro e w5 ⟨rfl,hb5⟩))
 all_goals go_ret
 all_goals first
  |exact⟨zl E0.out.symm,zzR _ _⟩
  |exact⟨zl E0.out.symm,hb5⟩):P:=h
theorem zz42{P:Prop}(h:P:=by
 cases t3:(nm.toList== [43,43])with
 |true=>
  simp only [t3]at E0
  cases q1:(cl==1)with
  |true=>
   simp only [q1]at E0;simp only [zzX3]at E0;go_in;go_wp2_with (first|(go_at_call 50;refine(hO _).mono ?_;rintro e w1 ⟨rfl,rfl⟩)|(go_at_call 51;refine hCl.mono ?_;rintro e w5 ⟨rfl,hb5⟩))
   all_goals go_ret
   all_goals first
    |exact⟨zl E0.out.symm,zzR _ _⟩
    |exact⟨zl E0.out.symm,hb5⟩
  |false=>
   simp only [q1]at E0;simp only [zzX3]at E0;go_in;go_wp2_with (first|(go_at_call 50;refine(hO _).mono ?_;rintro e w1 ⟨rfl,rfl⟩)|(go_at_call 51;refine hCl.mono ?_;rintro e w5 ⟨rfl,hb5⟩))
   all_goals go_ret
   all_goals first
    |exact⟨zl E0.out.symm,zzR _ _⟩
    |exact⟨zl E0.out.symm,hb5⟩
 |false=>
  simp only [t3]at E0
  cases ob with
  |true=>
   simp only [zzX3]at E0;go_in;go_wp2_with (first|(go_at_call 50;refine(hO _).mono ?_;rintro e w1 ⟨rfl,rfl⟩)|(go_at_call 51;refine hCl.mono ?_;rintro e w5 ⟨rfl,hb5⟩))
   all_goals go_ret
   all_goals first
    |exact⟨zl E0.out.symm,zzR _ _⟩
    |exact⟨zl E0.out.symm,hb5⟩
  |false=>
   cases q1:(cl==1)with
   |true=>
    simp only [q1]at E0;simp only [zzX3]at E0;go_in;go_wp2_with (first|(go_at_call 50;refine(hO _).mono ?_;rintro e w1 ⟨rfl,rfl⟩)|(go_at_call 51;refine hCl.mono ?_;rintro e w5 ⟨rfl,hb5⟩))
    all_goals go_ret
    all_goals first
     |exact⟨zl E0.out.symm,zzR _ _⟩
     |exact⟨zl E0.out.symm,hb5⟩
   |false=>
    simp only [q1]at E0;simp only [zzX3]at E0;go_in;go_wp2_with (first|(go_at_call 50;refine(hO _).mono ?_;rintro e w1 ⟨rfl,rfl⟩)|(go_at_call 51;refine hCl.mono ?_;rintro e w5 ⟨rfl,hb5⟩))
    all_goals go_ret
    all_goals first
     |exact⟨zl E0.out.symm,zzR _ _⟩
     |exact⟨zl E0.out.symm,hb5⟩):P:=h
theorem zz45{P:Prop}(h:P:=by
 simp only [zzq14,zzq13,zzq9,zzq16]at E0;go_in;go_wp2_with fail;refine hCl.mono ?_;rintro e w5 ⟨rfl,hb5⟩;have d3:=(hb5.cell (p:=⟨b,o+3,none⟩) hlt).trans c3;have d7:=(hb5.cell (p:=⟨b,o+7,none⟩) hlt).trans c7;go_wp2_with (go_at_call 50;refine(hO _).mono ?_;rintro e w1 ⟨rfl,rfl⟩)
 all_goals go_ret
 all_goals exact⟨zl E0.out.symm,hb5⟩):P:=h
theorem zz44{P:Prop}(h:P:=by
 simp only [q2]at E0;simp only [zzq14,zzq13,zzq9,zzq16]at E0;go_in;go_wp2_with fail;refine hCl.mono ?_;rintro e w5 ⟨rfl,hb5⟩;have d3:=(hb5.cell (p:=⟨b,o+3,none⟩) hlt).trans c3;have d7:=(hb5.cell (p:=⟨b,o+7,none⟩) hlt).trans c7;go_wp2_with (go_at_call 50;refine(hO _).mono ?_;rintro e w1 ⟨rfl,rfl⟩)
 all_goals go_ret
 all_goals exact⟨zl E0.out.symm,hb5⟩):P:=h
theorem zz46{P:Prop}(h:P:=by
 simp only [q3]at E0;simp only [zzq14,zzq13,zzq9,zzq16,Bool.and_true,Bool.and_false,zzq15,Bool.false_and]at E0;go_in;go_wp2_with fail
 first|go_region_held3 (fun w'=>w'.cell? ⟨b,o+7,none⟩=some (.string nm)/\w'.cell? ⟨b,o+5,none⟩=some (.int .i64 ln)) (exact⟨by assumption,by assumption⟩)
  ((go_at_call 51;refine(hCl _ ?_).mono ?_;exact HDR.out;rintro e w5 ⟨rfl,hb5⟩;have d7:=(hb5.cell (p:=⟨b,o+7,none⟩) hlt).trans c7;have d5:=(hb5.cell (p:=⟨b,o+5,none⟩) hlt).trans c5))|fail
 go_wp2;go_ret
 first
  |exact⟨zl E0.out.symm,hb5⟩
  |exact⟨zl E0.out.symm,zzR _ _⟩):P:=h
theorem zzX0:type_of% (And.intro @Act.put.eq_1 (And.intro @List.setIfInBounds_toArray.{0} (And.intro @List.set_cons_zero.{0} (And.intro @List.set_cons_succ.{0} (And.intro @List.getElem_toArray.{0} (And.intro @List.getElem_cons_zero.{0} @List.getElem_cons_succ.{0})))))):=And.intro @Act.put.eq_1 (And.intro @List.setIfInBounds_toArray.{0} (And.intro @List.set_cons_zero.{0} (And.intro @List.set_cons_succ.{0} (And.intro @List.getElem_toArray.{0} (And.intro @List.getElem_cons_zero.{0} @List.getElem_cons_succ.{0})))))
theorem zzX4:type_of% (And.intro @List.getElem_toArray.{0} (And.intro @List.getElem_cons_zero.{0} @List.getElem_cons_succ.{0})):=And.intro @List.getElem_toArray.{0} (And.intro @List.getElem_cons_zero.{0} @List.getElem_cons_succ.{0})
theorem zz47{P:Prop}(h:P:=by
 go_in;go_wp2_with (go_at_call 193;refine(zjy _ _).mono ?_;rintro e w1 ⟨rfl,rfl⟩);go_ret;exact⟨zcF E.out.symm,rfl⟩):P:=h
theorem zz48{P:Prop}(h:P:=by
 go_wp2;go_ret;exact⟨rfl,rfl⟩):P:=h
abbrev zzQ:=@List.eq_nil_of_length_eq_zero
theorem zz53{P:Prop}(h:P:=by
 go_wp2_with (go_at_call 47;refine(hwi _).mono ?_;rintro e w1 ⟨rfl,rfl⟩);go_meet
 case rel=>exact⟨_,rfl,zzH (by rw [hv.out];(first|rfl|(rw [sd];rfl)|(rw [decide_eq_true s60'];rfl))),rfl⟩):P:=h
theorem zz54{P:Prop}(h:P:=by
 go_wp2_with fail;go_meet
 case rel=>exact⟨_,rfl,zzH (by rw [hv.out];(first|rfl|(rw [sd];rfl)|(rw [decide_eq_true s60'];rfl))),rfl⟩):P:=h
theorem zz55{P:Prop}(h:P:=by
 by_cases h:0<=cl'/\cl'<=(u.lits.length:Int)-1
 ·exact h
 ·rw [zdx h]at hprev;cases hprev):P:=h
theorem zz51{P:Prop}(h:P:=by
 rw [hz]at HSB;clear hz;have hsv0:sb=false:=by rw [HSB.out];simp []
 have HSV:=zzH hsv0;clear hsv0;go_wp2_with (go_at_call 47;refine(hwt _).mono ?_;rintro e w1 ⟨rfl,rfl⟩);have HE3:Hid (zbl u.lits x=false):=zzH (by rw [HE2.out,HK.out,HST.out,HSV.out];rfl);go_ret;exact⟨zl HE3.out.symm,HBQ.out.trans (HBX.out.mono HBQ.out.size)⟩):P:=h
theorem zz50{P:Prop}(h:P:=by
 rw [hz]at HSB;clear hz;have hsv0:sb=false:=by rw [HSB.out];simp []
 have HSV:=zzH hsv0;clear hsv0;go_wp2_with (go_at_call 47;refine(hwt _).mono ?_;rintro e w1 ⟨rfl,rfl⟩);refine(hop1 _ HBX.out).mono ?_;rintro e w5 ⟨rfl,hb5⟩;have HB5:=zzH (ze HBX.out hb5);have hbra:=(hb5.block wr.heap.size (zd HBR.out)).trans HBR.out;obtain⟨g0,g1,g2,g3,g4,g5⟩:=zc7 hbra;clear hb5;have HE3:Hid (zbl u.lits x=false):=zzH (by rw [HE2.out,HK.out,HST.out,HSV.out];rfl);go_wp2;go_ret;exact⟨zl HE3.out.symm,HBQ.out.trans (HB5.out.mono HBQ.out.size)⟩):P:=h
theorem zz49{P:Prop}(h:P:=by
 rw [hz]at HSB;clear hz
 cases os with
 |false=>
  have hsv0:sb=false:=by rw [HSB.out];simp []
  have HSV:=zzH hsv0;clear hsv0;go_wp2_with (go_at_call 47;refine(hwt _).mono ?_;rintro e w1 ⟨rfl,rfl⟩);refine(hop1 _ HBX.out).mono ?_;rintro e w5 ⟨rfl,hb5⟩;have HB5:=zzH (ze HBX.out hb5);have hbra:=(hb5.block wr.heap.size (zd HBR.out)).trans HBR.out;obtain⟨g0,g1,g2,g3,g4,g5⟩:=zc7 hbra;clear hb5;go_wp2_with fail;refine(hop2 _ HB5.out).mono ?_;rintro e w6 ⟨rfl,hb6⟩;have HB6:=zzH (ze HB5.out hb6);clear g0 g1 g2 g3 g4 g5;have hbrb:=(hb6.block wr.heap.size (zd hbra)).trans hbra;obtain⟨g0,g1,g2,g3,g4,g5⟩:=zc7 hbrb;clear hb6;have HE3:Hid (zbl u.lits x=false):=zzH (by rw [HE2.out,HK.out,HST.out,HSV.out];rfl);go_wp2;go_ret;exact⟨zl HE3.out.symm,HBQ.out.trans (HB6.out.mono HBQ.out.size)⟩
 |true=>
  go_wp2_with (go_at_call 47;refine(hwt _).mono ?_;rintro e w1 ⟨rfl,rfl⟩);refine(hop1 _ HBX.out).mono ?_;rintro e w5 ⟨rfl,hb5⟩;have HB5:=zzH (ze HBX.out hb5);have hbra:=(hb5.block wr.heap.size (zd HBR.out)).trans HBR.out;obtain⟨g0,g1,g2,g3,g4,g5⟩:=zc7 hbra;clear hb5;go_wp2_with fail;refine(hop2 _ HB5.out).mono ?_;rintro e w6 ⟨rfl,hb6⟩;have HB6:=zzH (ze HB5.out hb6);clear g0 g1 g2 g3 g4 g5;have hbrb:=(hb6.block wr.heap.size (zd hbra)).trans hbra;obtain⟨g0,g1,g2,g3,g4,g5⟩:=zc7 hbrb;clear hb6
  cases lit with
  |false=>
   have hsv0:sb=true:=by rw [HSB.out];simp []
   have HSV:=zzH hsv0;clear hsv0;have HK2:Hid (x.segs.all (zbE u.lits.length)=(x.segs.drop (k+1)).all (zbE u.lits.length)):=zzH (by rw [HK.out,HST.out,HSV.out];rfl);go_wp2_with fail;go_roundw
   case rel=>exact⟨k+1,by omega,by go_num,HK2,HBQ.out.trans (HB6.out.mono HBQ.out.size)⟩
   case measure=>simp [intOf];omega
  |true=>
   cases ty1:(ty==1)with
   |true=>
    have ty2 : (ty != 1) = false := by unfold bne; rw [ty1]; rfl
    have hsv0:sb=true:=by rw [HSB.out];simp [ty1]
    have HSV:=zzH hsv0;clear hsv0;have HK2:Hid (x.segs.all (zbE u.lits.length)=(x.segs.drop (k+1)).all (zbE u.lits.length)):=zzH (by rw [HK.out,HST.out,HSV.out];rfl);go_wp2_with fail;go_roundw
    case rel=>exact⟨k+1,by omega,by go_num,HK2,HBQ.out.trans (HB6.out.mono HBQ.out.size)⟩
    case measure=>simp [intOf];omega
   |false=>
    have ty2 : (ty != 1) = true := by unfold bne; rw [ty1]; rfl
    have hsv0:sb=false:=by rw [HSB.out];simp [ty1]
    have HSV:=zzH hsv0;clear hsv0;have HE3:Hid (zbl u.lits x=false):=zzH (by rw [HE2.out,HK.out,HST.out,HSV.out];rfl);go_wp2;go_ret;exact⟨zl HE3.out.symm,HBQ.out.trans (HB6.out.mono HBQ.out.size)⟩):P:=h
theorem zz52{P:Prop}(h:P:=by
 have HSV:=zzH hsv0;clear hsv0;have HK2:Hid (x.segs.all (zbE u.lits.length)=(x.segs.drop (k+1)).all (zbE u.lits.length)):=zzH (by rw [HK.out,HST.out,HSV.out];rfl);go_wp2_with fail;go_roundw
 case rel=>exact⟨k+1,by omega,by go_num,HK2,HBQ.out.trans (HB5.out.mono HBQ.out.size)⟩
 case measure=>simp [intOf];omega):P:=h
theorem zz56{P:Prop}(h:P:=by
 have:=zzp.1 hg g hm;unfold zcs at this;rw [zzq4,zzq4]at this;have a:=zb5 this.1;have b:=zb5 this.2.1;have c:=zb5 this.2.2;omega):P:=h
abbrev zzh:=@List.mem_cons_of_mem
abbrev zzg:=@List.mem_cons_self
theorem zzq18:type_of% @List.length_cons.{0}:=@List.length_cons
theorem zz57{P:Prop}(h:P:=by
 go_wp2_with fail;go_quiet (fail);go_wp2_with fail;go_roundw
 case rel=>exact⟨k+1,_,by omega,by go_num,rfl,zm hB _⟩
 case measure=>simp [intOf];omega):P:=h
theorem zz58{P:Prop}(h:P:=by
 go_wp2_with fail
 all_goals go_ret
 all_goals exact⟨_,rfl,HBA.out.trans (hB.mono HBA.out.size),fun e=>by cases e⟩):P:=h
abbrev zzk:=@List.mem_append
theorem zz59{P:Prop}(h:P:=by
 unfold zG;by_cases h1:s.frame=t.frame
 ·by_cases h2:s.tries=t.tries
  ·by_cases h3:s.recv=t.recv
   ·by_cases h4:s.frm=t.frm<;>simp [h1,h2,h3,h4]
   ·simp [h1,h2,h3]
  ·simp [h1,h2]
 ·simp [h1]):P:=h
theorem zz60{P:Prop}(h:P:=by
 rcases List.mem_cons.1 (h.sub t ht)with e|e
 ·rw [e]
 ·exact Decidable.byContradiction fun c=>hn ⟨t,e,c⟩):P:=h
abbrev zzP:=@List.mem_singleton
abbrev zzl:=@beq_iff_eq
theorem zz62{P:Prop}(h:P:=by
 have E:Hid (zT a b=a):=zzH (by unfold zT;rw [if_pos h1]);have t1:(a==b)=true:=zzl.2 h1;clear h1;go_in;go_wp2;go_ret;exact⟨zY E.out.symm,rfl⟩):P:=h
theorem zz61{P:Prop}(h:P:=by
 have t1:(a==b)=false:=zzB.2 h1;by_cases h2:a=0
 ·have E:Hid (zT a b=0):=zzH (by unfold zT;rw [if_neg h1,if_pos (.inl h2)])
  have t2:(a==0)=true:=zzl.2 h2;clear h1 h2;go_in;go_wp2;go_ret;exact⟨zY E.out.symm,rfl⟩
 ·have t2:(a==0)=false:=zzB.2 h2
  by_cases h3:b=0
  ·have E:Hid (zT a b=0):=zzH (by unfold zT;rw [if_neg h1,if_pos (.inr h3)])
   have t3:(b==0)=true:=zzl.2 h3;clear h1 h2 h3;go_in;go_wp2;go_ret;exact⟨zY E.out.symm,rfl⟩
  ·have t3:(b==0)=false:=zzB.2 h3
   have hz: ¬(a=0\/b=0):=fun h=>h.elim h2 h3
   by_cases h4:3<=a
   ·have t4:decide (3<=a)=true:=zzT h4
    by_cases h5:3<=b
    ·have E:Hid (zT a b=min a b):=zzH (by unfold zT;rw [if_neg h1,if_neg hz,if_pos ⟨h4,h5⟩])
     have t5:decide (3<=b)=true:=zzT h5;clear h1 h2 h3 h4 h5 hz;go_in;go_wp2_with fail
     all_goals
      go_ret;exact⟨zY (by rw [E.out]<;>omega),rfl⟩
    ·have E:Hid (zT a b=1):=zzH (by unfold zT;rw [if_neg h1,if_neg hz,if_neg (fun h=>h5 h.2)])
     have t5:decide (3<=b)=false:=zzD h5;clear h1 h2 h3 h4 h5 hz;go_in;go_wp2;go_ret;exact⟨zY E.out.symm,rfl⟩
   ·have E:Hid (zT a b=1):=zzH (by unfold zT;rw [if_neg h1,if_neg hz,if_neg (fun h=>h4 h.1)])
    have t4:decide (3<=a)=false:=zzD h4;clear h1 h2 h3 h4 hz;go_in;go_wp2;go_ret;exact⟨zY E.out.symm,rfl⟩):P:=h
theorem zz64{P:Prop}(h:P:=by
 rcases h with rfl|rfl|rfl|rfl|rfl
 all_goals
  go_in;go_wp2;go_ret;exact⟨rfl,rfl⟩):P:=h
theorem zz63{P:Prop}(h:P:=by
 have E:Hid (zbi op=false):=zzH (zzD h);have t1:(op==26)=false:=by rw [zzq1];omega
 have t2:(op==17)=false:=by rw [zzq1];omega
 have t3:(op==19)=false:=by rw [zzq1];omega
 have t4:(op==21)=false:=by rw [zzq1];omega
 have t5:(op==23)=false:=by rw [zzq1];omega
 clear h;go_in;go_wp2;go_ret;exact⟨zl E.out.symm,rfl⟩):P:=h
theorem zz65{P:Prop}(h:P:=by
 rw [zzq0 _ _ _ _ _ _ hb,hr k hk,List.getD_eq_getElem?_getD,zzq3 hk];rfl):P:=h
theorem zz66{P:Prop}(h:P:=by
 simpa only [zzq11] using this):P:=h
theorem zzq7:type_of% @Array.getElem?_setIfInBounds.{0}:=@Array.getElem?_setIfInBounds
theorem zz67{P:Prop}(h:P:=by
 rw [zzq0 _ _ _ _ _ _ hb,hr j hj,List.getD_eq_getElem?_getD,zzq3 hj];rfl):P:=h
theorem zz68{P:Prop}(h:P:=by
 go_in;go_wp2;go_ret;exact⟨zY E.out.symm,rfl⟩):P:=h
theorem zz70{P:Prop}(h:P:=by
 have h:=zh9 t1 t2 to' to2 tc tc' wx (HT.out.heap hx) (HT'.out.heap hx) l1 l2
 rwa [b2]at h):P:=h
theorem zz69{P:Prop}(h:P:=by
 clear h1 h2 h3 h4 E;go_in;go_wp2_with fail;go_quiet (fail);go_wp2_with fail;go_quiet ((refine zf4 (HE.out _ ?_);rfl));go_wp2_with fail;go_quiet (fail);go_wp2;go_ret;exact⟨zY E1.out.symm,by first|exact⟨_,rfl⟩|(simp only [World.drewN_drewN];exact⟨_,rfl⟩)⟩):P:=h
theorem zz198{P:Prop}(h:P:=by
 go_wp2_with fail;go_quiet (fail);go_wp2;go_ret;exact⟨zY E1.out.symm,by first|exact⟨_,rfl⟩|(simp only [World.drewN_drewN];exact⟨_,rfl⟩)⟩):P:=h
theorem zz71{P:Prop}(h:P:=by
 go_wp2_with fail;go_meet
 case rel=>exact⟨rfl,zzH ⟨zzF _ _,(zzE _ _).drew⟩⟩):P:=h
theorem zz73{P:Prop}(h:P:=by
 obtain⟨ao',c',rfl,-,-⟩:=hown.ints;have e3:(s.x++List.replicate (j+1) (0:Int)).length=s.x.length+(j+1):=by simp
 rw [e3]at hown;rw [e3];refine⟨⟨j+1,ao',c',by omega,fun _=>by omega,rfl,zzH hown,zzH hbl⟩,?_⟩;show n+1-(s.x.length+(j+1))<n+1-(s.x.length+j);omega):P:=h
theorem zz75{P:Prop}(h:P:=by
 rcases Nat.eq_zero_or_pos j with h0|h0
 ·subst h0;rw [show n+1-s.x.length=0 by omega]
 ·rw [show n+1-s.x.length=j by omega]):P:=h
theorem zz74{P:Prop}(h:P:=by
 rcases HK.out.2 with⟨-,h0⟩|⟨g,cap,cur,h,-⟩
 ·rw [zzq12,List.length_replicate]at h0;omega
 ·have e3:(s.x++List.replicate j (0:Int)).length=s.x.length+j:=by simp
  rw [e3]at h;exact⟨g,cap,h⟩):P:=h
theorem zz72{P:Prop}(h:P:=by
 rcases HK.out.2 with⟨h,-⟩|⟨g',cap',cur,h,hB,hgg,h1,h2,h3,h4⟩
 ·cases h
 ·injection h with ha hb hc
  injection ha with ha;injection ha with ha;subst ha;have e3:(s.x++List.replicate j (0:Int)).length=s.x.length+j:=by simp
  rw [e3]at h1;exact⟨cur,hgg,by omega,hB⟩):P:=h
theorem zz76{P:Prop}(h:P:=by
 cases kb with
 |true=>
  go_wp2_with fail;refine HCL.out.mono ?_;rintro e w1 ⟨rfl,nq,rfl⟩;go_wp2_with fail;exact⟨⟨j+1,hlt,by go_num,by rw [HK2.out],FIN.out nq HW2.out⟩,by simp [intOf];omega⟩
 |false=>
  go_wp2_with fail;refine HCL.out.mono ?_;rintro e w1 ⟨rfl,nq,rfl⟩;go_wp2_with fail;exact⟨⟨j+1,hlt,by go_num,by rw [HK2.out],FIN.out nq HW2.out⟩,by simp [intOf];omega⟩):P:=h
theorem zz77{P:Prop}(h:P:=by
 cases kb with
 |true=>
  go_wp2_with fail;refine HCL.out.mono ?_;rintro e w1 ⟨rfl,nq,rfl⟩;go_wp2_with fail;exact⟨⟨j+1,hlt,by go_num,by rw [HK2.out],FIS.out nq HW2.out⟩,by simp [intOf];omega⟩
 |false=>
  go_wp2_with fail;refine HCL.out.mono ?_;rintro e w1 ⟨rfl,nq,rfl⟩;go_wp2_with fail;exact⟨⟨j+1,hlt,by go_num,by rw [HK2.out],FIS.out nq HW2.out⟩,by simp [intOf];omega⟩):P:=h
theorem zz78{P:Prop}(h:P:=by
 clear c0 HE2;go_wp2_with fail;refine HR.out.mono ?_;rintro e w1 ⟨rfl,rfl⟩;go_wp2_with fail;refine(zca _ _ _).mono ?_;rintro e w1 ⟨rfl,rfl⟩;go_wp2;go_ret2;exact⟨zdp HT2.out.symm HE3.out.symm,HB.out⟩):P:=h
theorem zz79{P:Prop}(h:P:=by
 clear HT2 d9 d7;go_wp2_with fail;go_quiet (fail);go_wp2;go_ret2;exact⟨zdp HT3.out.symm HE2.out.symm,zm HB.out _⟩):P:=h
theorem zz82{P:Prop}(h:P:=by
 unfold zB;rw [List.headD_eq_head?_getD,List.head?_eq_getElem?,zzq3 hl0];rfl):P:=h
theorem zz81{P:Prop}(h:P:=by
 clear d HR2;go_in;go_wp2_with fail;refine(HK.out _ (zzR _ _)).mono ?_;rintro e w1 ⟨rfl,hb1⟩;have j5:=(HI.out.below hb1).c5;go_wp2_with fail;refine(zca _ _ _).mono ?_;rintro e w1 ⟨rfl,rfl⟩;go_wp2;go_ret;exact⟨zY HR3.out,hb1⟩):P:=h
theorem zz80{P:Prop}(h:P:=by
 clear d HR2;rcases c67 with rfl|rfl
 all_goals
  go_in;go_wp2_with fail;refine(HK.out _ (zzR _ _)).mono ?_;rintro e w1 ⟨rfl,hb1⟩;go_wp2_with fail;refine(zca _ _ _).mono ?_;rintro e w1 ⟨rfl,rfl⟩;go_wp2;go_ret;exact⟨zY HR3.out,hb1⟩):P:=h
theorem zz83{P:Prop}(h:P:=by
 go_in;go_wp2;go_ret;exact⟨zY HR2.out.symm,zzR _ _⟩):P:=h
theorem zz84{P:Prop}(h:P:=by
 clear d HR2;rcases h1 with rfl|rfl
 all_goals
  go_in;go_wp2_with fail;refine(zca _ _ _).mono ?_;rintro e w1 ⟨rfl,rfl⟩;go_wp2;go_ret;exact⟨zY HR3.out,rfl⟩):P:=h
theorem zz85{P:Prop}(h:P:=by
 clear d HR2;rcases h2 with rfl|rfl
 all_goals
  go_in;go_wp2_with fail;refine(zca _ _ _).mono ?_;rintro e w1 ⟨rfl,rfl⟩;go_wp2;go_ret;exact⟨zY HR3.out,rfl⟩):P:=h
theorem zz86{P:Prop}(h:P:=by
 clear d HR2;go_in;go_wp2_with fail;refine(zca _ _ _).mono ?_;rintro e w1 ⟨rfl,rfl⟩;go_wp2;go_ret;exact⟨zY HR3.out,rfl⟩):P:=h
theorem zz88{P:Prop}(h:P:=by
 go_in;go_wp2_with (go_at_call 60;refine(zca _ _ _).mono ?_;rintro e w1 ⟨rfl,rfl⟩);go_ret;exact⟨zY HR2.out,rfl⟩):P:=h
theorem zz87{P:Prop}(h:P:=by
 clear HR h1 h2;go_in;go_wp2_with (go_at_call 60;refine(zca _ _ _).mono ?_;rintro e w1 ⟨rfl,rfl⟩);go_ret;exact⟨zY HR2.out,rfl⟩):P:=h
theorem zz89{P:Prop}(h:P:=by
 clear HR h1 h2;go_in;go_wp2_with (first|(go_at_call 60;refine(zca _ _ _).mono ?_;rintro e w1 ⟨rfl,rfl⟩)|(go_at_call 62;refine(HLV.out _).mono ?_;rintro e w1 ⟨rfl,rfl⟩));go_ret;exact⟨zY HR2.out,rfl⟩):P:=h
theorem zz92{P:Prop}(h:P:=by
 clear HR h0 h1 hL;generalize s.tries.length=n at *;go_in;go_wp2_with (go_at_call 60;refine(zca _ _ _).mono ?_;rintro e w1 ⟨rfl,rfl⟩);go_ret;exact⟨zY HR2.out,0,rfl⟩):P:=h
theorem zz91{P:Prop}(h:P:=by
 clear HR1;go_in;go_wp2_with fail;go_quiet (first|(go_at_call 62;exact zze (HLV.out _))|(go_at_call 64;exact zze (HRS.out _))|(go_at_call 60;exact zze (zca _ _ _)));go_wp2;go_ret;exact⟨zY HR2.out,_,rfl⟩):P:=h
theorem zz90{P:Prop}(h:P:=by
 clear HR1 h2;go_in;go_wp2_with fail;go_quiet (first|(go_at_call 62;exact zze (HLV.out _))|(go_at_call 64;exact zze (HRS.out _))|(go_at_call 60;exact zze (zca _ _ _)));go_wp2;go_ret;exact⟨zY HR2.out,_,rfl⟩):P:=h
theorem zz93{P:Prop}(h:P:=by
 go_in;go_wp2_with fail;go_quiet ((first|(exact zze (zca _ _ _))));go_wp2;go_ret;exact⟨zY HR.out.symm,by first|exact⟨_,rfl⟩|(simp only [World.drewN_drewN];exact⟨_,rfl⟩)⟩):P:=h
theorem zz94{P:Prop}(h:P:=by
 clear d1;by_cases h1:ks=0
 ·have t3 : (ks != 0) = false := by rw [h1]; rfl
  have HF4:Hid (F=zbs s (zW (x.segs.drop (k+1))++zbJ (zbS u x).toNat)):=zzH (by
   rw [HF2.out,if_neg d,List.cons_append,zes (by rw [HKS.out];exact h1)])
  clear h1 d HF2 HKS HKV HBO HCS HCV HK HA;generalize hsk:g.size.kind=sk at *;generalize hsn:g.size.n=sn at *;clear hsk hsn;go_wp2_with fail;refine(HCS2.out _ HB3.out).mono ?_;rintro e w2 ⟨rfl,hb2⟩;have HB4:=zzH (HB3.out.trans (hb2.mono HB3.out.size));clear hb2;go_wp2_with fail;exact⟨⟨k+1,hlt,by go_num,HF4,HB4⟩,by simp [intOf];omega⟩
 ·have t3 : (ks != 0) = true := by simpa using h1
  have HF4:Hid (R=ks):=zzH (by
   have e:F=ks:=by rw [HF2.out,if_neg d,List.cons_append,zeJ (by rw [HKS.out];exact h1),HKS.out]
   rw [HR.out,e,if_pos h1])
  clear h1 d HF2 HKS HKV HBO HCS HCV HK HA;generalize hsk:g.size.kind=sk at *;generalize hsn:g.size.n=sn at *;clear hsk hsn;go_wp2_with fail;refine(HCS2.out _ HB3.out).mono ?_;rintro e w2 ⟨rfl,hb2⟩;have HB4:=zzH (HB3.out.trans (hb2.mono HB3.out.size));clear hb2;go_wp2;go_ret;exact⟨zY HF4.out.symm,HB4.out⟩):P:=h
theorem zz95{P:Prop}(h:P:=by
 clear d1 d2;clear HRF HK HA HF3;go_wp2_with fail;go_quiet ((go_at_call 60;exact zze (zca _ _ _)));go_wp2;go_ret;exact⟨zY HR2.out,zm HB3.out _⟩):P:=h
theorem zz96{P:Prop}(h:P:=by
 obtain⟨xo,xc,yo,yc,to',tc,hr,hl⟩:=h;exact⟨xo,xc,yo,yc,to',tc,zcR hr hY (by decide),⟨hl.x.setFar hY (by decide),hl.y.setFar hY (by decide),hl.t.setFar hY (by decide),hl.xl,hl.yl,hl.tl⟩⟩):P:=h
theorem zz98{P:Prop}(h:P:=by
 gi_wp2
 refine zzj (results_none rfl _ _ _) rfl ?_;exact⟨⟨_,rfl⟩,.inr ⟨_,trivial,hJx3⟩⟩):P:=h
theorem zz99{P:Prop}(h:P:=by
 gi_wp2
 refine zzj (results_none rfl _ _ _) rfl ?_;exact⟨⟨_,rfl⟩,.inr ⟨_,trivial,hJx5⟩⟩):P:=h
theorem zz97{P:Prop}(h:P:=by
 gi_wp2
 any_goals (exfalso;exact zlg (by assumption))
 refine⟨fun _ h=>(by cases h),?_⟩;gi_wp2;refine zzj (results_none rfl _ _ _) rfl ?_;exact⟨⟨_,rfl⟩,.inr ⟨_,trivial,hJx3⟩⟩):P:=h
theorem zz100{P:Prop}(h:P:=by
 gi_wp2
 exact⟨KeepsFrom.refl _ _,KpT.refl _ _ _,⟨⟨v,hv,by rw [HR.out];exact hrow⟩,hL⟩,hB⟩):P:=h
theorem zz101{P:Prop}(h:P:=by
 clear HR h1 h2 h3 h13 n1 n2;go_in;go_wp2;go_ret;exact⟨zY HR2.out.symm,zzR _ _⟩):P:=h
theorem zz102{P:Prop}(h:P:=by
 show(zA (s.x.take x.live.toNat)).length<=_;unfold zA;rw [List.length_take,List.length_take];omega):P:=h
theorem zz104{P:Prop}(h:P:=by
 clear hd;go_quiet (exact zze (HLM.out _));go_wp2_with fail;go_meet
 case rel=>exact⟨_,rfl,by rw [t0];rfl⟩):P:=h
theorem zz103{P:Prop}(h:P:=by
 go_wp2;go_ret2;refine⟨⟨Z,pc,rfl,?_,by rw [HR2.out];exact K2.out⟩,K1.out⟩;rw [HR1.out];exact⟨xo,xc,yo,yc,to',tc,HRR.out,⟨K3.out.x,K3.out.y,K3.out.t,K3.out.xl,K3.out.yl,K3.out.tl⟩⟩):P:=h
theorem zz105{P:Prop}(h:P:=by
 go_quiet (fail);go_wp2_with fail;go_meet
 case rel=>exact⟨by rw [E.out],zzH (zm (zzR _ _) _)⟩):P:=h
theorem zz106{P:Prop}(h:P:=by
 rintro e w' ⟨he,hw⟩;exact⟨he,by first|(obtain⟨q,rfl⟩:=hw;exact zm (zzR _ _) _)|(subst hw;exact zzR _ _)⟩):P:=h
abbrev zzv:=@setRow_other
abbrev zzm:=@wpList_store_row
theorem zz109{P:Prop}(h:P:=by
 rcases Nat.lt_or_ge j k with c|c
 ·exact HF.out j hj c
 ·obtain rfl:j=k:=by omega
  exact he):P:=h
theorem zz107{P:Prop}(h:P:=by
 go_wp2_with fail;go_quiet (fail);go_wp2_with fail;refine⟨⟨k+1,by omega,.inl hlt,by go_num,zzH ?_,HF2⟩,by simp [intOf];omega⟩;rw [HQW.out];first|exact⟨_,rfl⟩|(simp only [World.drewN_drewN];exact⟨_,rfl⟩)):P:=h
theorem zz108{P:Prop}(h:P:=by
 go_wp2_with fail;go_quiet (fail);go_wp2;go_ret;exact⟨zY HD.out.symm,by rw [HQW.out];first|exact⟨_,rfl⟩|(simp only [World.drewN_drewN];exact⟨_,rfl⟩)⟩):P:=h
theorem zz110{P:Prop}(h:P:=by
 rcases Nat.lt_or_ge i listed.size with h'|h'
 ·simp [h']at h3 h4;rw [h4]at h3;cases h3
 ·simp [Array.getElem?_eq_none h']at h3):P:=h
theorem zz111{P:Prop}(h:P:=by
 clear HT2 d9 d7;go_wp2;go_ret2;exact⟨zdp HT3.out.symm HE2.out.symm,HFIN.out _⟩):P:=h
theorem zz113{P:Prop}(h:P:=by
 go_meet;exact⟨zzH (by rw [HNIL.out];exact World.ownsRow_nil _ _ _ _),zzH (zzR _ _)⟩):P:=h
theorem zz112{P:Prop}(h:P:=by
 go_meet;exact⟨HO3,zzH ⟨HG4.out.os,HG4.out.tape,HG4.out.output,HG4.out.size,fun j hj=>HG4.out.block j (by rw [<-HM.out];exact hj) (by simp)⟩⟩):P:=h
theorem zz114{P:Prop}(h:P:=by
 rw [<-hs]at h1;rw [Array.getElem?_eq_getElem h1];rw [Array.getD_eq_getD_getElem?,Array.getElem?_eq_getElem h1]at h2;exact congrArg some h2):P:=h
theorem zz115{P:Prop}(h:P:=by
 by_cases c:K k= []
 ·rw [h2 c]at e;cases e
 ·rw [h3 c]at e
  have h1:=(h.blk hk c).1;have h2:=zzf e;omega):P:=h
theorem zz116{P:Prop}(h:P:=by
 go_wp2;go_ret;exact⟨zY HR2.out.symm,HBB.out⟩):P:=h
theorem zz120{P:Prop}(h:P:=by
 have E:Hid (zy s=false):=zzH (ze2 (by omega));go_in;go_wp2;go_ret;exact⟨zl E.out.symm,rfl⟩):P:=h
theorem zz119{P:Prop}(h:P:=by
 have E:Hid (zy s=false):=zzH (HB.out (by rw [HZ.out];exact zzD (by omega)));go_in;go_wp2;go_ret;exact⟨zl E.out.symm,rfl⟩):P:=h
theorem zz118{P:Prop}(h:P:=by
 have e4:decide ((48:Int)<=(b:Int))=true:=zzT (by omega);have e5:decide ((b:Int)<=57)=false:=zzD (by omega);have e6:((b:Int)!=95)=true:=by rw [bne_iff_ne];omega
 have e7:((b:Int)!=64)=true:=by rw [bne_iff_ne];omega
 have HN2:=zzH (HN.out (by rw [HP.out];exact zzT (by omega)));clear hc HP HBK HN;go_wp2_with fail;go_round
 case rel=>exact⟨k+1,by omega,by omega,by go_num,HN2⟩
 case measure=>simp [intOf];omega):P:=h
theorem zz200{P:Prop}(h:P:=by
 have e7:((b:Int)!=64)=true:=by rw [bne_iff_ne];omega
 have HN2:=zzH (HN.out (by rw [HP.out];exact zzT (by omega)));clear hc HP HBK HN;go_wp2_with fail;go_round
 case rel=>exact⟨k+1,by omega,by omega,by go_num,HN2⟩
 case measure=>simp [intOf];omega):P:=h
theorem zz117{P:Prop}(h:P:=by
 have e2:decide ((65:Int)<=(b:Int))=true:=zzT (by omega);have e3:decide ((b:Int)<=90)=false:=zzD (by omega);have e4:decide ((48:Int)<=(b:Int))=true:=zzT (by omega);have e5:decide ((b:Int)<=57)=false:=zzD (by omega);have e6:((b:Int)!=95)=true:=by rw [bne_iff_ne];omega
 have e7:((b:Int)!=64)=true:=by rw [bne_iff_ne];omega
 have E:Hid (zy s=false):=zzH (HBK.out (by rw [HP.out];exact zzD (by omega)));clear hc HP HBK HN;go_wp2;go_ret;exact⟨zl E.out.symm,rfl⟩):P:=h
theorem zz199{P:Prop}(h:P:=by
 have e6:((b:Int)!=95)=true:=by rw [bne_iff_ne];omega
 have e7:((b:Int)!=64)=true:=by rw [bne_iff_ne];omega
 have E:Hid (zy s=false):=zzH (HBK.out (by rw [HP.out];exact zzD (by omega)));clear hc HP HBK HN;go_wp2;go_ret;exact⟨zl E.out.symm,rfl⟩):P:=h
theorem zz121{P:Prop}(h:P:=by
 go_wp2;go_ret;exact⟨zl E.out.symm,rfl⟩):P:=h
theorem zz122{P:Prop}(h:P:=by
 have E:Hid (r=true):=zzH (by rw [HQ.out];rfl);go_in;go_wp2;go_ret;exact⟨zl E.out.symm,rfl⟩):P:=h
theorem zz123{P:Prop}(h:P:=by
 go_in;go_wp2_with (first|(go_at_call 75;refine(zkf _ _ _ _ (by decide)).mono ?_;rintro e w1 ⟨rfl,hb1⟩;have hk:=ziz hb1)|(refine zzm rfl 93 _ _ rfl _ _ rfl rfl 93 _ hk (by kernel_rfl) rfl (RRow.one _) ?_));go_wp2_with fail;refine zzj (zbn rfl _ _ _ w.heap.size _ _ _ _ rfl (setRow_heap _ _ _ _ _ _ hk) Tryz.underlying93 (by kernel_rfl)) rfl ?_;exact⟨rfl,below_setRow ((zzE _ _).trans (hb1.mono (by simp))) (zzL _) _⟩):P:=h
theorem zz124{P:Prop}(h:P:=by
 go_in;go_wp2_with fail;refine zzj (zbn rfl _ _ _ w.heap.size _ _ _ _ rfl (zzF _ _) Tryz.underlying93 (by kernel_rfl)) rfl ?_;exact⟨rfl,zzE _ _⟩):P:=h
theorem zz128{P:Prop}(h:P:=by
 go_wp2_with fail;go_meet;exact⟨by rw [HBV.out],rfl⟩):P:=h
theorem zz127{P:Prop}(h:P:=by
 have HE1:=zzH E1;have HE2:=zzH E2;clear E1 E2;obtain⟨xo,xc,yo,yc,to',tc,-,⟨d0,d1,d2,d3,d4,d5,d6⟩,hL⟩:=HEV9.out.s.seven2;have HL:=zzH hL;clear hL;go_wp2_with fail;refine(zhg c xo yo to' xc yc tc _).mono ?_;rintro e w5 ⟨⟨g,rfl,-,hg⟩,hb5⟩;have hl5:StLs w5 (zci c) (some ⟨g,0,none⟩) 1 yo yc to' tc:=⟨ziW hg,(HL.out.below hb5).y,(HL.out.below hb5).t,zzL _,HL.out.yl,HL.out.tl⟩;have HEV5:=zzH (HEV9.out.below hb5);have HL5:=zzH hl5;obtain⟨_,_,_,_,_,_,hr3,-⟩:=HEV5.out.n;have H3:=zzH hr3;clear hr3 hl5 hb5 hg d0 d1 d2 d3 d4 d5 d6;go_wp2_with (refine zzm rfl 40 (.tmp 8) (.tmp 96) rfl (w.heap.size+1+1+1) (zj (zci c) (some ⟨g,0,none⟩) 1 yo yc to' tc) rfl rfl 40 _ H3.out (by kernel_rfl) rfl (zbU _ _ _ _ _ _ _) ?_;generalize hwz:World.setRow _ _ _=wz);have HZ:Hid (EV w wz (uRow u lo lc fo fc go gc co cc) (xRow x so sc zo zc zs zsc) c (zci c) c H):=zzH (by rw [<-hwz];exact(HEV5.out.row_n HL5.out).1);clear hwz;go_meet;exact zzH (by rw [HE1.out,HE2.out];exact HZ.out)):P:=h
theorem zz125{P:Prop}(h:P:=by
 have HBD:Hid (Below w9.heap.size w9 WD):=zzH (HBB.out.grown hgWD HBB.out.size (fun k e=>OwnI.base ((by have h1:=HOWB.out;rw [List.nil_append]at h1;exact h1)) k e));have HOWD:=zzH hoWD;have HGWD:=zzH hgWD;clear hoWD hgWD hatWD;obtain⟨av,cv,rfl,hi2,hc2⟩:=HOWD.out.ints;have HI2:=zzH hi2;have HC2:=zzH hc2;clear hi2 hc2;refine hK.out _ _ ⟨⟨(HBD.out.cell (p:=⟨w.heap.size+1,3,none⟩) (by show w.heap.size+1<w9.heap.size;have:=HX.out;omega)).trans KD.out.1,(HBD.out.cell (p:=⟨w.heap.size+1+1,4,none⟩) (by show w.heap.size+1+1<w9.heap.size;have:=HX.out;omega)).trans KD.out.2⟩,trivial⟩ ?_;clear hK KK
 try simp only [zzX0]
 refine zE 8 fun KK hK=>?_
 rw [if_pos (by rfl)];go_simp;refine hK.out _ _ ⟨⟨(HBD.out.cell (p:=⟨w.heap.size+1,3,none⟩) (by show w.heap.size+1<w9.heap.size;have:=HX.out;omega)).trans KD.out.1,(HBD.out.cell (p:=⟨w.heap.size+1+1,4,none⟩) (by show w.heap.size+1+1<w9.heap.size;have:=HX.out;omega)).trans KD.out.2⟩,trivial⟩ ?_;clear hK KK
 try simp only [zzX0]
 refine zE 9 fun KK hK=>?_
 rw [if_pos (by rfl)];have HEVD:=zzH (HEV9.out.below HBD.out);obtain⟨xoN,xcN,yoN,ycN,toN,tcN,hrN,hLN⟩:=HEVD.out.n;have HN3:=zzH hrN;have HLN:=zzH hLN;have z3:=zw hrN (k:=3) (by simp [zj]);have y3:WD.frozen? ⟨w.heap.size+1+1+1,3,none⟩=false:=zzq5 _ _ _ _ _ hrN;clear hrN hLN;go_simp;refine hK.out _ _ ⟨⟨(World.cell?_setCell_far WD ⟨w.heap.size+1+1+1,3,none⟩ ⟨w.heap.size+1,3,none⟩ _ (by show w.heap.size+1+1+1≠w.heap.size+1;omega)).trans (show _/\_ from⟨(HBD.out.cell (p:=⟨w.heap.size+1,3,none⟩) (by show w.heap.size+1<w9.heap.size;have:=HX.out;omega)).trans KD.out.1,(HBD.out.cell (p:=⟨w.heap.size+1+1,4,none⟩) (by show w.heap.size+1+1<w9.heap.size;have:=HX.out;omega)).trans KD.out.2⟩).1,(World.cell?_setCell_far WD ⟨w.heap.size+1+1+1,3,none⟩ ⟨w.heap.size+1+1,4,none⟩ _ (by show w.heap.size+1+1+1≠w.heap.size+1+1;omega)).trans (show _/\_ from⟨(HBD.out.cell (p:=⟨w.heap.size+1,3,none⟩) (by show w.heap.size+1<w9.heap.size;have:=HX.out;omega)).trans KD.out.1,(HBD.out.cell (p:=⟨w.heap.size+1+1,4,none⟩) (by show w.heap.size+1+1<w9.heap.size;have:=HX.out;omega)).trans KD.out.2⟩).2⟩,trivial⟩ ?_;clear hK KK
 try simp only [zzX0]
 refine zbq (by kernel_rfl) ?_ _;clear z3 y3;go_wp2_with fail;go_meet;exact zzH (by rw [HE1.out,HE2.out];exact(HEVD.out.cell_n HN3.out (X:={N with tries:=c.tries++ [x.to]}) (j:=3) (v:=.slice av (c.tries.length+1) cv) (xo2:=xoN) (xc2:=xcN) (yo2:=yoN) (yc2:=ycN) (to2:=av) (tc2:=cv) (by unfold zj;simp only [zzq12,zzq18,List.length_nil];rfl) ⟨HLN.out.x,HLN.out.y,HI2.out,HLN.out.xl,HLN.out.yl,HC2.out⟩).1)):P:=h
theorem zz126{P:Prop}(h:P:=by
 have HE1:=zzH E1;have HE2:=zzH E2;clear E1 E2;obtain⟨xoN,xcN,yoN,ycN,toN,tcN,hrN,hLN⟩:=HEV9.out.n;have HN3:=zzH hrN;have HLN:=zzH hLN;have z5:=zw hrN (k:=5) (by simp [zj]);have y5:w9.frozen? ⟨w.heap.size+1+1+1,5,none⟩=false:=zzq5 _ _ _ _ _ hrN;have z6:=zw hrN (k:=6) (by simp [zj]);have y6:w9.frozen? ⟨w.heap.size+1+1+1,6,none⟩=false:=zzq5 _ _ _ _ _ hrN;clear hrN hLN;go_wp2_with fail;go_meet;obtain⟨h1,k1⟩:=HEV9.out.cell_n HN3.out (X:={N with recv:=0}) (j:=5) (v:=.int .i64 0) (xo2:=xoN) (xc2:=xcN) (yo2:=yoN) (yc2:=ycN) (to2:=toN) (tc2:=tcN) (rfl) ⟨HLN.out.x,HLN.out.y,HLN.out.t,HLN.out.xl,HLN.out.yl,HLN.out.tl⟩;have hr1:=zzS w9 (w.heap.size+1+1+1) 5 _ _ (.int .i64 0) HN3.out;obtain⟨h2,-⟩:=h1.cell_n (Y:={N with recv:=0}) hr1 (X:={N with recv:=0,frm:=0}) (j:=6) (v:=.int .i64 0) (xo2:=xoN) (xc2:=xcN) (yo2:=yoN) (yc2:=ycN) (to2:=toN) (tc2:=tcN) rfl ⟨HLN.out.x.keepI k1,HLN.out.y.keepI k1,HLN.out.t.keepI k1,HLN.out.xl,HLN.out.yl,HLN.out.tl⟩;exact zzH (by rw [HE1.out,HE2.out];exact h2)):P:=h
abbrev zzw:=@cell_setRow_other
theorem zz131{P:Prop}(h:P:=by
 have hT:T= []:=by rw [hx.out];simp [toX]
 have HT:=zzH hT;clear hT hx;go_wp2_with fail;go_meet;exact⟨zzH (by rw [HT.out];exact World.ownsRow_nil _ _ _ _),HB1⟩):P:=h
theorem zz130{P:Prop}(h:P:=by
 have hT:T= [-1]:=by rw [hx.out];simp [toX]
 have HT:=zzH hT;clear hT hx;have hgr:=zzF w1 (.cells #[.int .i64 (-1)] 3);have hba:Below w1.heap.size w1 (w1.alloc (.cells #[.int .i64 (-1)] 3)):=zzE _ _;have HG:=zzH hgr;have HBA:=zzH hba;clear hgr hba;go_wp2_with (at_builtin;refine zc9 rfl (.tmp 40) (.tmp 43) rfl w.heap.size (.slice none 0 0) [] rfl (World.ownsRow_nil _ _ _ _) (some ⟨w1.heap.size,0,none⟩) 1 [-1] 1 rfl rfl (zdf HG.out) (by have:=HBA.out.size;have:=HS1.out;omega) (by simp) (fun v2 w2 ho2 hg2 hat2=>?_));go_meet;exact⟨zzH (by rw [HT.out];exact ho2),zzH ((HB1.out.trans (HBA.out.mono (by have:=HS1.out;omega))).grown hg2 (by have:=HBA.out.size;have:=HS1.out;omega) (fun k e=>by cases e))⟩):P:=h
theorem zz129{P:Prop}(h:P:=by
 have hT:T= [1,-1]:=by rw [hx.out];simp [toX]
 have HT:=zzH hT;clear hT hx;have hgr:=zzF w1 (.cells #[.int .i64 1,.int .i64 (-1)] 3);have hba:Below w1.heap.size w1 (w1.alloc (.cells #[.int .i64 1,.int .i64 (-1)] 3)):=zzE _ _;have HG:=zzH hgr;have HBA:=zzH hba;clear hgr hba;go_wp2_with (at_builtin;refine zc9 rfl (.tmp 80) (.tmp 85) rfl w.heap.size (.slice none 0 0) [] rfl (World.ownsRow_nil _ _ _ _) (some ⟨w1.heap.size,0,none⟩) 2 [1,-1] 2 rfl rfl (zmh HG.out) (by have:=HBA.out.size;have:=HS1.out;omega) (by simp) (fun v2 w2 ho2 hg2 hat2=>?_));go_meet;exact⟨zzH (by rw [HT.out];exact ho2),zzH ((HB1.out.trans (HBA.out.mono (by have:=HS1.out;omega))).grown hg2 (by have:=HBA.out.size;have:=HS1.out;omega) (fun k e=>by cases e))⟩):P:=h
theorem zz132{P:Prop}(h:P:=by
 go_upto_region 7 with fail;go_quiet (fail);go_wp2_with fail
 try go_ret2
 rw [HQ.out];exact⟨⟨184,rfl,HE.out.symm,fun h=>by cases h⟩,by first|exact zm HBK.out _|exact HBK.out.drew|exact HBK.out⟩):P:=h
theorem zz133{P:Prop}(h:P:=by
 go_wp2_with fail;go_meet;exact⟨by rw [HBV.out],HB7⟩):P:=h
theorem zz148{P:Prop}(h:P:=by
 go_wp2;go_ret;exact⟨zY HRR.out.symm,HST.out.trans (HVC.out.mono (by rw [HMV.out];exact HST.out.size))⟩):P:=h
theorem zz141{P:Prop}(h:P:=by
 have HRR:Hid (R=180):=zzH (by
  rw [HR.out];unfold zbw;rw [HOP.out,HTV.out];rfl)
 go_wp2;go_ret;exact⟨zY HRR.out.symm,HST.out.trans (HVC.out.mono (by rw [HMV.out];exact HST.out.size))⟩):P:=h
theorem zz139{P:Prop}(h:P:=by
 have a0 : (rv != 0) = false := zcQ r0;have a1 : (rv != 1) = true := zch (by omega);have HBV:Hid (B=true):=zzH (by rw [HB.out];exact zzT (by exact .inr (.inl ⟨by decide,by omega⟩)));clear r0;go_wp2_with fail;go_meet;exact⟨by rw [HBV.out],HVC⟩):P:=h
theorem zz134{P:Prop}(h:P:=by
 go_wp2_with fail;refine(zev 37 wc).mono ?_;rintro e wq ⟨rfl,hbq⟩;have HVQ:=zzH (HVC.out.trans (hbq.mono (by rw [HMV.out];exact HVC.out.size)));obtain⟨-,-,-,-,-,d5,-⟩:=zN ((HVQ.out.block _ hlB).trans HB2.out);obtain⟨i0,-,-,-,-,-,-,-,-,-⟩:=zC ((HVQ.out.block _ hlC).trans HC2.out);have hop:zc3 37=true:=by decide
 rw [hop];go_wp2_with fail;go_meet;exact⟨by rw [HBV.out],HVQ⟩):P:=h
theorem zz135{P:Prop}(h:P:=by
 go_wp2_with fail;refine(zev 40 wc).mono ?_;rintro e wq ⟨rfl,hbq⟩;have HVQ:=zzH (HVC.out.trans (hbq.mono (by rw [HMV.out];exact HVC.out.size)));obtain⟨-,-,-,-,-,d5,-⟩:=zN ((HVQ.out.block _ hlB).trans HB2.out);obtain⟨i0,-,-,-,-,-,-,-,-,-⟩:=zC ((HVQ.out.block _ hlC).trans HC2.out);have hop:zc3 40=true:=by decide
 rw [hop];go_wp2_with fail;go_meet;exact⟨by rw [HBV.out],HVQ⟩):P:=h
theorem zz140{P:Prop}(h:P:=by
 have a0 : (rv != 0) = false := zcQ r0;have a1 : (rv != 2) = true := zch (by omega);have HBV:Hid (B=true):=zzH (by rw [HB.out];exact zzT (by exact .inr (.inr ⟨by decide,by omega⟩)));clear r0;go_wp2_with fail;go_meet;exact⟨by rw [HBV.out],HVC⟩):P:=h
theorem zz136{P:Prop}(h:P:=by
 go_wp2_with fail;refine(zev 38 wc).mono ?_;rintro e wq ⟨rfl,hbq⟩;have HVQ:=zzH (HVC.out.trans (hbq.mono (by rw [HMV.out];exact HVC.out.size)));obtain⟨-,-,-,-,-,d5,-⟩:=zN ((HVQ.out.block _ hlB).trans HB2.out);obtain⟨i0,-,-,-,-,-,-,-,-,-⟩:=zC ((HVQ.out.block _ hlC).trans HC2.out);have hop:zc3 38=true:=by decide
 rw [hop];go_wp2_with fail;go_meet;exact⟨by rw [HBV.out],HVQ⟩):P:=h
theorem zz137{P:Prop}(h:P:=by
 go_wp2_with fail;refine(zev 39 wc).mono ?_;rintro e wq ⟨rfl,hbq⟩;have HVQ:=zzH (HVC.out.trans (hbq.mono (by rw [HMV.out];exact HVC.out.size)));obtain⟨-,-,-,-,-,d5,-⟩:=zN ((HVQ.out.block _ hlB).trans HB2.out);obtain⟨i0,-,-,-,-,-,-,-,-,-⟩:=zC ((HVQ.out.block _ hlC).trans HC2.out);have hop:zc3 39=true:=by decide
 rw [hop];go_wp2_with fail;go_meet;exact⟨by rw [HBV.out],HVQ⟩):P:=h
theorem zz201{P:Prop}(h:P:=by
 go_wp2_with fail;go_meet;exact⟨by rw [HBV.out],HVC⟩):P:=h
theorem zz138{P:Prop}(h:P:=by
 clear r0 h37 h38 h39 h40;go_wp2_with fail;refine(zev op wc).mono ?_;rintro e wq ⟨rfl,hbq⟩;have HVQ:=zzH (HVC.out.trans (hbq.mono (by rw [HMV.out];exact HVC.out.size)));obtain⟨-,-,-,-,-,d5,-⟩:=zN ((HVQ.out.block _ hlB).trans HB2.out);obtain⟨i0,-,-,-,-,-,-,-,-,-⟩:=zC ((HVQ.out.block _ hlC).trans HC2.out);rw [ho];go_wp2_with fail;go_meet;exact⟨by rw [HBV.out],HVQ⟩):P:=h
theorem zz142{P:Prop}(h:P:=by
 have HBV:Hid (B=true):=zzH (by rw [HB.out];exact zzT (by exact⟨rfl,by decide,by decide⟩));clear HRV;go_wp2_with fail;go_meet;exact⟨by rw [HBV.out],HVC⟩):P:=h
theorem zz143{P:Prop}(h:P:=by
 subst h2;have HBV:Hid (B=true):=zzH (by rw [HB.out];exact zzT (by exact .inl ⟨rfl,h1⟩));clear h1;go_wp2_with fail;go_meet;exact⟨by rw [HBV.out],HVC⟩):P:=h
theorem zz149{P:Prop}(h:P:=by
 rintro e wq ⟨rfl,rfl⟩;rw [hop];go_wp2_with fail;go_meet;exact⟨by rw [HBV.out],HVC⟩):P:=h
theorem zz144{P:Prop}(h:P:=by
 clear h1 h2 h3;go_wp2_with fail;refine(zcN op we).mono ?_;rintro e wq ⟨rfl,rfl⟩;rw [hlv];go_wp2_with fail;go_meet;exact⟨by rw [HBV.out],HVC⟩):P:=h
theorem zz146{P:Prop}(h:P:=by
 go_wp2_with fail;refine(zcN op we).mono ?_;rintro e wq ⟨rfl,rfl⟩;rw [hlv];go_wp2_with fail;go_meet;exact⟨by rw [HBV.out],HVC⟩):P:=h
theorem zz147{P:Prop}(h:P:=by
 go_wp2_with fail;refine(zcN op wf).mono ?_;rintro e wq ⟨rfl,rfl⟩;rw [hlv];go_wp2_with fail;go_meet;exact⟨by rw [HBV.out],HVC⟩):P:=h
theorem zz145{P:Prop}(h:P:=by
 clear h1 h2;go_wp2_with fail;refine(zcN op wf).mono ?_;rintro e wq ⟨rfl,rfl⟩;rw [hlv];go_wp2_with fail;go_meet;exact⟨by rw [HBV.out],HVC⟩):P:=h
theorem zz150{P:Prop}(h:P:=by
 generalize hwz:World.setCell _ _ _=wz;rw [hwz]at hk' hkk' hbl';have hblw:=(HBD.out.mono (zzb HX.out.2.1)).trans hbl';have huz:=((hkk'.2 _ ((HK1.out.below HBD.out).far ((HBD.out.block _ (zd HU1.out)).trans HU1.out) (by decide) (by decide))).2.trans (HBD.out.block _ (zd HU1.out))).trans HU1.out;refine zzK3 hk' huz (HB1.out.trans (hblw.mono (zzb HKB.out))) fun HKZ HUZ HBZ=>?_;clear hwz hk' hkk' hbl' hblw huz HO9 HG9 HAT9 HROWS HV' HLL HOWA HNEW HONE HOW HML HIE HCE HBD HBA;go_wp2_with fail;exact⟨⟨k+1,cs',g',HLTK.out,by go_num,by rw [HST.out];exact HKZ,HUZ,HBZ⟩,by have:=HLTK.out;simp [intOf];omega⟩):P:=h
theorem zz151{P:Prop}(h:P:=by
 by_cases h:a<=n
 ·by_cases h':n<=b
  ·have E:=zzH (zd0 h h')
   go_in;go_wp2;go_ret;exact⟨zl E.out.symm,rfl⟩
  ·have E:Hid (wi n a b=false):=zzH (zdx (by omega))
   go_in;go_wp2;go_ret;exact⟨zl E.out.symm,rfl⟩
 ·have E:Hid (wi n a b=false):=zzH (zdx (by omega))
  go_in;go_wp2;go_ret;exact⟨zl E.out.symm,rfl⟩):P:=h
theorem zz152{P:Prop}(h:P:=by
 go_in;go_wp2;go_ret;exact⟨zl E.out.symm,HB.out⟩):P:=h
theorem zz155{P:Prop}(h:P:=by
 go_in;go_wp2_with fail;refine zzj (results_cell_row rfl _ _ (w.heap.size+1) _ _ _ _ rfl HN.out Tryz.underlying110 rfl (by kernel_rfl)) rfl ?_;exact⟨so,c,rfl,HB.out⟩):P:=h
theorem zz153{P:Prop}(h:P:=by
 have HN:=zzH (zdd w (.cells #[.int .i64 0,.int .i64 0,.int .i64 0,.string ⟨#[]⟩,.string tf,.int .i64 ta,.slice so tl.length c,.string ty,.int .i64 tz] 110) (.cells #[.int .i64 0,.int .i64 0,.int .i64 0,.string ⟨#[]⟩,.string tf,.int .i64 ta,.slice so tl.length c,.string ty,.int .i64 tz] 110));have HB:Hid (Below w.heap.size w ((w.alloc (.cells #[.int .i64 0,.int .i64 0,.int .i64 0,.string ⟨#[]⟩,.string tf,.int .i64 ta,.slice so tl.length c,.string ty,.int .i64 tz] 110)).alloc (.cells #[.int .i64 0,.int .i64 0,.int .i64 0,.string ⟨#[]⟩,.string tf,.int .i64 ta,.slice so tl.length c,.string ty,.int .i64 tz] 110))):=zzH ((zzE _ _).alloc (by simp) _);go_in;go_wp2_with fail;refine zzj (results_cell_row rfl _ _ (w.heap.size+1) _ _ _ _ rfl HN.out Tryz.underlying110 rfl (by kernel_rfl)) rfl ?_;exact⟨so,c,rfl,HB.out⟩):P:=h
theorem zz154{P:Prop}(h:P:=by
 have HN:=zzH (zdd w (.cells #[.int .i64 0,.int .i64 ti,.int .i64 tg,.string tn,.string tf,.int .i64 ta,.slice none 0 0,.string ty,.int .i64 tz] 110) (.cells #[.int .i64 0,.int .i64 ti,.int .i64 tg,.string tn,.string tf,.int .i64 ta,.slice none 0 0,.string ty,.int .i64 tz] 110));have HB:Hid (Below w.heap.size w ((w.alloc (.cells #[.int .i64 0,.int .i64 ti,.int .i64 tg,.string tn,.string tf,.int .i64 ta,.slice none 0 0,.string ty,.int .i64 tz] 110)).alloc (.cells #[.int .i64 0,.int .i64 ti,.int .i64 tg,.string tn,.string tf,.int .i64 ta,.slice none 0 0,.string ty,.int .i64 tz] 110))):=zzH ((zzE _ _).alloc (by simp) _);go_in;go_wp2_with fail;refine zzj (results_cell_row rfl _ _ (w.heap.size+1) _ _ _ _ rfl HN.out Tryz.underlying110 rfl (by kernel_rfl)) rfl ?_;exact⟨none,0,rfl,HB.out⟩):P:=h
theorem zz156{P:Prop}(h:P:=by
 have E:Hid (zcz y z=false):=zzH (by unfold zcz;rw [zdx (by omega)];rfl);go_in;go_wp2;go_ret;exact⟨zl E.out.symm,HB.out⟩):P:=h
theorem zz158{P:Prop}(h:P:=by
 unfold zh at hform;rw [zzq4]at hform;have:=hform.1;unfold zc0 at this;rw [zzq4]at this;exact zkw this.1):P:=h
theorem zz159{P:Prop}(h:P:=by
 have:300+t.items.length<=zR (f+1) t:=by show 300+t.items.length<=300+t.items.length+zb0 (t.items.map (zR f));omega
 omega):P:=h
theorem zz160{P:Prop}(h:P:=by
 have:((300+t.items.length+zb0 (t.items.map (zR f)):Nat):Int)<=1152921504606846976:=hcap;omega):P:=h
theorem zz157{P:Prop}(h:P:=by
 obtain⟨k,s,hk,rfl,rfl,HK,hs0,hs1,HBk⟩:=hrel;rename World=>wr
 clear c0 c6 c8;have hb1:=(HBk.out.block B (zd HBX.out)).trans HBX.out;have hlb1:=zd hb1;have c6:wr.cell? ⟨B,6,none⟩=some (.slice so t.items.length c):=by rw [zzq0 _ _ _ _ _ _ hb1];rfl
 clear hb1;by_cases hlt:k<t.items.length
 ·obtain⟨b2,off,ai,ci,hao,hb2,q0,q1,q2,q3,q4,q5,q6,q7,q8,hcall,hsd,hw0,hws⟩:=HREC.out k s wr hlt HBk.out HK.out
  subst hao;have HCL:=zzH hcall;have HSD:=zzH hsd;clear hcall hsd;generalize t.items[k]=u at *;generalize zr f u=wu at *;go_wp2_with fail;refine HCL.out.mono ?_;rintro e9 w5 ⟨rfl,hb5⟩;go_wp2_with fail;go_roundw
  case rel=>exact⟨k+1,s+wu,by omega,by go_num,rfl,HSD,by omega,by omega,zzH (ze HBk.out hb5)⟩
  case measure=>simp [intOf];omega
 ·have E:Hid (TV=s):=zzH (by rw [HK.out,zzq10 (by omega)];show s+0=s;omega)
  go_wp2;go_ret;exact⟨zcF E.out.symm,by rw [HBZ.out];exact HFIN.out _ HBk.out⟩):P:=h
theorem zzc9{w:World}{B:Nat}{v0 v1 v2 v3 v4 v5 v6 v7 v8:Value}{l:List Value}{T:Nat}{o:Nat×Nat}(h:w.heap[B]?=some (.cells (v0::v1::v2::v3::v4::v5::v6::v7::v8::l).toArray T o)):w.cell? ⟨B,0,none⟩=some v0/\w.cell? ⟨B,1,none⟩=some v1/\w.cell? ⟨B,2,none⟩=some v2/\w.cell? ⟨B,3,none⟩=some v3/\w.cell? ⟨B,4,none⟩=some v4/\w.cell? ⟨B,5,none⟩=some v5/\w.cell? ⟨B,6,none⟩=some v6/\w.cell? ⟨B,7,none⟩=some v7/\w.cell? ⟨B,8,none⟩=some v8:=⟨zzq0 w B 0 _ _ _ h,zzq0 w B 1 _ _ _ h,zzq0 w B 2 _ _ _ h,zzq0 w B 3 _ _ _ h,zzq0 w B 4 _ _ _ h,zzq0 w B 5 _ _ _ h,zzq0 w B 6 _ _ _ h,zzq0 w B 7 _ _ _ h,zzq0 w B 8 _ _ _ h⟩
theorem zz161{P:Prop}(h:P:=by
 obtain⟨k,hk,rfl,HK,HBk⟩:=hrel;rename World=>wr
 clear c0 c1 c2 c3 c4 c5 c6 c7 c8;have hb1:=(HBk.out.block B (zd HBX.out)).trans HBX.out;have hlb1:=zd hb1;obtain ⟨c0,c1,c2,c3,c4,c5,c6,c7,c8⟩:=zzc9 hb1;clear hb1;by_cases hlt:k<t.items.length
 ·obtain⟨b2,off,ai,ci,hao,hb2,q0,q1,q2,q3,q4,q5,q6,q7,q8,r,hcall,hsd⟩:=HREC.out k wr hlt HBk.out HK.out
  subst hao;have HCL:=zzH hcall;have HSD:=zzH hsd;clear hcall hsd;generalize t.items[k]=u at *
  cases r with
  |true=>
   go_wp2_with fail;refine HCL.out.mono ?_;rintro e9 w5 ⟨rfl,hb5⟩;go_wp2_with fail;go_roundw
   case rel=>exact⟨k+1,by omega,by go_num,zzH (by rw [HSD.out,zzq15]),zzH (ze HBk.out hb5)⟩
   case measure=>simp [intOf];omega
  |false=>
   go_wp2_with fail;refine HCL.out.mono ?_;rintro e9 w5 ⟨rfl,hb5⟩;go_wp2;go_ret;exact⟨zl (by rw [HET.out A rfl,HSD.out];cases okK t<;>rfl),by rw [HBZ.out];exact HFIN.out _ (ze HBk.out hb5)⟩
 ·have E:Hid (R=okK t):=zzH (by rw [HET.out A rfl,HK.out,zzq10 (by omega)];simp)
  have hkd:=HKD.out;have hE:=E.out;have e2:okK t=(true):=by unfold okK;simp [hkd,Bool.and_assoc]
  rw [e2]at hE;rw [hkd]at c0;clear e2 E HKD hkd;have E:=zzH hE;clear hE;go_wp2;go_ret;exact⟨zl (by rw [E.out];try simp),by rw [HBZ.out];exact HFIN.out _ HBk.out⟩):P:=h
theorem zz162{P:Prop}(h:P:=by
 obtain⟨b2,off,ai,ci,hao,hb2,q0,q1,q2,q3,q4,q5,q6,q7,q8,r,hcall,hsd⟩:=HREC.out k wr hlt HBk.out HK.out;subst hao;have HCL:=zzH hcall;have HSD:=zzH hsd;clear hcall hsd;generalize t.items[k]=u at *
 cases r with
 |true=>
  go_wp2_with fail;refine HCL.out.mono ?_;rintro e9 w5 ⟨rfl,hb5⟩;go_wp2_with fail;go_roundw
  case rel=>exact⟨k+1,by omega,by go_num,zzH (by rw [HSD.out,zzq15]),zzH (ze HBk.out hb5)⟩
  case measure=>simp [intOf];omega
 |false=>
  go_wp2_with fail;refine HCL.out.mono ?_;rintro e9 w5 ⟨rfl,hb5⟩;go_wp2;go_ret;exact⟨zl (by rw [HET.out A rfl,HSD.out];cases okK t<;>rfl),by rw [HBZ.out];exact HFIN.out _ (ze HBk.out hb5)⟩):P:=h
theorem zz163{P:Prop}(h:P:=by
 obtain⟨k,hk,rfl,HK,HBk⟩:=hrel;rename World=>wr
 clear c0 c1 c2 c3 c4 c5 c6 c7 c8;have hb1:=(HBk.out.block B (zd HBX.out)).trans HBX.out;have hlb1:=zd hb1;obtain ⟨c0,c1,c2,c3,c4,c5,c6,c7,c8⟩:=zzc9 hb1;clear hb1;by_cases hlt:k<t.items.length
 ·obtain⟨b2,off,ai,ci,hao,hb2,q0,q1,q2,q3,q4,q5,q6,q7,q8,r,hcall,hsd⟩:=HREC.out k wr hlt HBk.out HK.out
  subst hao;have HCL:=zzH hcall;have HSD:=zzH hsd;clear hcall hsd;generalize t.items[k]=u at *
  cases r with
  |true=>
   go_wp2_with fail;refine HCL.out.mono ?_;rintro e9 w5 ⟨rfl,hb5⟩;go_wp2_with fail;go_roundw
   case rel=>exact⟨k+1,by omega,by go_num,zzH (by rw [HSD.out,zzq15]),zzH (ze HBk.out hb5)⟩
   case measure=>simp [intOf];omega
  |false=>
   go_wp2_with fail;refine HCL.out.mono ?_;rintro e9 w5 ⟨rfl,hb5⟩;go_wp2;go_ret;exact⟨zl (by rw [HET.out A rfl,HSD.out];cases okK t<;>rfl),by rw [HBZ.out];exact HFIN.out _ (ze HBk.out hb5)⟩
 ·have E:Hid (R=okK t):=zzH (by rw [HET.out A rfl,HK.out,zzq10 (by omega)];simp)
  have hkd:=HKD.out;have hE:=E.out;have e2:okK t=(wi t.int 1 2147483647&&wi t.gen 1 2147483647&&zy t.name):=by unfold okK;simp [hkd,Bool.and_assoc]
  rw [e2]at hE;rw [hkd]at c0;clear e2 E HKD hkd;have h0:=fun wx=>zdn t.int 1 2147483647 wx
  have h1:=fun wx=>zdn t.gen 1 2147483647 wx
  have h2:=fun wx=>zdv t.name wx (by unfold maxLen;omega)
  generalize wi t.int 1 2147483647=b0 at *;generalize wi t.gen 1 2147483647=b1 at *;generalize zy t.name=b2 at *;have E:=zzH hE;clear hE
  cases b0 with
  |false=>
   go_wp2_with (first|(go_at_call 165;first|((with_reducible refine(h0 _).mono ?_);rintro e w9 ⟨rfl,rfl⟩)|((with_reducible refine(h1 _).mono ?_);rintro e w9 ⟨rfl,rfl⟩))|(go_at_call 71;first|((with_reducible refine(h2 _).mono ?_);rintro e w9 ⟨rfl,rfl⟩)));go_ret;exact⟨zl (by rw [E.out];try simp),by rw [HBZ.out];exact HFIN.out _ HBk.out⟩
  |true=>
   cases b1 with
   |false=>
    go_wp2_with (first|(go_at_call 165;first|((with_reducible refine(h0 _).mono ?_);rintro e w9 ⟨rfl,rfl⟩)|((with_reducible refine(h1 _).mono ?_);rintro e w9 ⟨rfl,rfl⟩))|(go_at_call 71;first|((with_reducible refine(h2 _).mono ?_);rintro e w9 ⟨rfl,rfl⟩)));go_ret;exact⟨zl (by rw [E.out];try simp),by rw [HBZ.out];exact HFIN.out _ HBk.out⟩
   |true=>
    go_wp2_with (first|(go_at_call 165;first|((with_reducible refine(h0 _).mono ?_);rintro e w9 ⟨rfl,rfl⟩)|((with_reducible refine(h1 _).mono ?_);rintro e w9 ⟨rfl,rfl⟩))|(go_at_call 71;first|((with_reducible refine(h2 _).mono ?_);rintro e w9 ⟨rfl,rfl⟩)));go_ret;exact⟨zl (by rw [E.out];try simp),by rw [HBZ.out];exact HFIN.out _ HBk.out⟩):P:=h
theorem zz164{P:Prop}(h:P:=by
 go_wp2_with (first|(go_at_call 165;first|((with_reducible refine(h2 _).mono ?_);rintro e w9 ⟨rfl,rfl⟩))|(go_at_call 71;first|((with_reducible refine(h0 _).mono ?_);rintro e w9 ⟨rfl,rfl⟩)|((with_reducible refine(h1 _).mono ?_);rintro e w9 ⟨rfl,rfl⟩)));go_ret;exact⟨zl (by rw [E.out];try simp),by rw [HBZ.out];exact HFIN.out _ HBk.out⟩):P:=h
theorem zz165{P:Prop}(h:P:=by
 go_wp2_with (first|(go_at_call 165;first|((with_reducible refine(h0 _).mono ?_);rintro e w9 ⟨rfl,rfl⟩)|((with_reducible refine(h1 _).mono ?_);rintro e w9 ⟨rfl,rfl⟩)|((with_reducible refine(h3 _).mono ?_);rintro e w9 ⟨rfl,rfl⟩))|(go_at_call 71;first|((with_reducible refine(h2 _).mono ?_);rintro e w9 ⟨rfl,rfl⟩)));go_ret;exact⟨zl (by rw [E.out];try simp<;>omega),by rw [HBZ.out];exact HFIN.out _ HBk.out⟩):P:=h
theorem zz166{P:Prop}(h:P:=by
 go_wp2_with fail;refine(HW.out (by trivial) _ HB5.out).mono ?_;rintro e w6 ⟨rfl,hb6⟩;go_wp2;go_ret;exact⟨zcF E.out.symm,by rw [HBZ.out];exact HB5.out.trans (hb6.mono (by have:=HB5.out.size;have:=HBZ.out;omega))⟩):P:=h
theorem zz167{P:Prop}(h:P:=by
 go_in;go_wp2;go_ret;exact⟨zcF E.out.symm,rfl⟩):P:=h
theorem zz168{P:Prop}(h:P:=by
 go_in;go_wp2_with (go_at_call 133;refine(h1 _).mono ?_;rintro e w1 ⟨rfl,rfl⟩);go_ret;exact⟨zcF E.out.symm,HB.out _ _⟩):P:=h
theorem zz169{P:Prop}(h:P:=by
 go_in;go_wp2;go_ret;exact⟨zl E.out.symm,HB.out⟩):P:=h
theorem zz170{P:Prop}(h:P:=by
 have E:Hid (zbh u.lits.length ⟨1,an⟩=false):=zzH (zdx (n:=an) (by omega));go_in;go_wp2;go_ret;exact⟨zl E.out.symm,HB.out⟩):P:=h
theorem zz171{P:Prop}(h:P:=by
 have E:Hid (zbh u.lits.length ⟨2,an⟩=false):=zzH (zdx (n:=an) (by omega));go_in;go_wp2;go_ret;exact⟨zl E.out.symm,HB.out⟩):P:=h
theorem zz172{P:Prop}(h:P:=by
 have E:Hid (zbh u.lits.length ⟨3,an⟩=false):=zzH (zdx (n:=an) (by omega));go_in;go_wp2;go_ret;exact⟨zl E.out.symm,HB.out⟩):P:=h
theorem zz174{P:Prop}(h:P:=by
 have t1:(x.n==1)=true:=by rw [n1];rfl
 have E2:Hid (zi u.funcs.length u.funs x=true):=zzH (by rw [E.out,decide_eq_true n1];rfl);clear n1;go_in;go_upto_region 1 with fail;obtain⟨hU,hX,hBW⟩:=zbA w u lo fo go co lc fc gc cc x so co' go' sc cc' gc';generalize hWW:(w.alloc (.cells (zzu u lo lc fo fc go gc co cc) 27)).alloc (.cells (zzi x so sc co' cc' go' gc') 47)=W at *;have c0:=hX.c0;have c3:=hX.c3;have c5:=hX.c5;have b3:=hU.c3;have b4:=hU.c4;have hlu:=hU.lt;have hlx:=hX.lt;have HBW:=zzH hBW;clear hU hX hBW hWW;rw [HOP.out]at c0;go_wp2;go_ret;exact⟨zl E2.out.symm,HBW.out⟩):P:=h
theorem zz173{P:Prop}(h:P:=by
 have t1:(x.n==1)=false:=zzB.2 n1;by_cases n8:x.n=8
 ·have t2:(x.n==8)=true:=by rw [n8];rfl
  have E2:Hid (zi u.funcs.length u.funs x=true):=zzH (by rw [E.out,decide_eq_true n8];simp);clear n1 n8;go_in;go_upto_region 1 with fail;obtain⟨hU,hX,hBW⟩:=zbA w u lo fo go co lc fc gc cc x so co' go' sc cc' gc';generalize hWW:(w.alloc (.cells (zzu u lo lc fo fc go gc co cc) 27)).alloc (.cells (zzi x so sc co' cc' go' gc') 47)=W at *;have c0:=hX.c0;have c3:=hX.c3;have c5:=hX.c5;have b3:=hU.c3;have b4:=hU.c4;have hlu:=hU.lt;have hlx:=hX.lt;have HBW:=zzH hBW;clear hU hX hBW hWW;rw [HOP.out]at c0;go_wp2;go_ret;exact⟨zl E2.out.symm,HBW.out⟩
 ·have t2:(x.n==8)=false:=zzB.2 n8
  have E2:Hid (zi u.funcs.length u.funs x=false):=zzH (by rw [E.out,decide_eq_false n1,decide_eq_false n8];rfl);clear n1 n8;go_in;go_upto_region 1 with fail;obtain⟨hU,hX,hBW⟩:=zbA w u lo fo go co lc fc gc cc x so co' go' sc cc' gc';generalize hWW:(w.alloc (.cells (zzu u lo lc fo fc go gc co cc) 27)).alloc (.cells (zzi x so sc co' cc' go' gc') 47)=W at *;have c0:=hX.c0;have c3:=hX.c3;have c5:=hX.c5;have b3:=hU.c3;have b4:=hU.c4;have hlu:=hU.lt;have hlx:=hX.lt;have HBW:=zzH hBW;clear hU hX hBW hWW;rw [HOP.out]at c0;go_wp2;go_ret;exact⟨zl E2.out.symm,HBW.out⟩):P:=h
theorem zz175{P:Prop}(h:P:=by
 clear hz E2;go_in;go_upto_region 1 with fail;obtain⟨hU,hX,hBW⟩:=zbA w u lo fo go co lc fc gc cc x so co' go' sc cc' gc';generalize hWW:(w.alloc (.cells (zzu u lo lc fo fc go gc co cc) 27)).alloc (.cells (zzi x so sc co' cc' go' gc') 47)=W at *;have c0:=hX.c0;have c3:=hX.c3;have c5:=hX.c5;have b3:=hU.c3;have b4:=hU.c4;have hlu:=hU.lt;have hlx:=hX.lt;have HBW:=zzH hBW;clear hU hX hBW hWW;rw [HOP.out]at c0;obtain⟨b2,off,hao,hb2,q0,q1,q2,_,_,_⟩:=(HF.out.mono HBW.out fun _ _ h=>h).fn hml;subst hao;rw [HM.out]at c5;generalize u.funs[m].free=z at *;go_wp2_with fail;go_quiet ((go_at_call 72;exact zze (hwr _)));go_wp2;go_ret;exact⟨zl E3.out.symm,zm HBW.out _⟩):P:=h
theorem zz179{P:Prop}(h:P:=by
 go_wp2_with (go_at_call 72;refine(hwi _).mono ?_;rintro e w1 ⟨rfl,rfl⟩);go_meet
 case rel=>exact⟨_,rfl,zzH (by rw [hv.out];rfl),rfl⟩):P:=h
theorem zz180{P:Prop}(h:P:=by
 obtain rfl:n1=true:=hn1.out;go_wp2;go_ret;exact⟨zl (by rw [HE.out];rfl),by rw [HBZ.out];exact HFIN.out _ (zzR _ _)⟩):P:=h
theorem zz178{P:Prop}(h:P:=by
 go_wp2_with (go_at_call 72;refine(hwc _).mono ?_;rintro e w1 ⟨rfl,rfl⟩);go_ret;exact⟨zl E.out.symm,by rw [HBZ.out];exact HFIN.out _ HBWR.out⟩):P:=h
theorem zz176{P:Prop}(h:P:=by
 go_wp2_with fail;go_roundw
 case rel=>exact⟨k+1,by omega,by go_num,HK2,HBQ.out.trans (HB6.out.mono HBQ.out.size)⟩
 case measure=>simp [intOf];omega):P:=h
theorem zz181{P:Prop}(h:P:=by
 go_wp2;go_ret;exact⟨zl E.out.symm,by rw [HBZ.out];exact HFIN.out _ (HBQ.out.trans (HB7.out.mono HBQ.out.size))⟩):P:=h
theorem zz177{P:Prop}(h:P:=by
 go_wp2_with fail;go_roundw
 case rel=>exact⟨k+1,by omega,by go_num,HK2,HBQ.out.trans (HB7.out.mono HBQ.out.size)⟩
 case measure=>simp [intOf];omega):P:=h
theorem zz184{P:Prop}(h:P:=by
 go_wp2_with (go_at_call 71;refine(hnm _).mono ?_;rintro e w1 ⟨rfl,rfl⟩);go_meet
 case rel=>exact⟨_,rfl,E,rfl⟩):P:=h
theorem zz183{P:Prop}(h:P:=by
 have E:=zzH (HNO.out (.inl rfl));go_wp2_with (first|(go_at_call 71;refine(hn _).mono ?_;rintro e w1 ⟨rfl,rfl⟩)|(go_at_call 72;first|((with_reducible refine(hw1 _).mono ?_);rintro e w1 ⟨rfl,rfl⟩)|((with_reducible refine(hw2 _).mono ?_);rintro e w1 ⟨rfl,rfl⟩)));go_ret;exact⟨zl E.out.symm,by rw [HBZ.out];exact HFIN.out _ (HBQ.out.trans (HBX.out.mono HBQ.out.size))⟩):P:=h
theorem zz182{P:Prop}(h:P:=by
 have E:Hid (zP (f+1) u=false):=zzH (by rw [HE3.out,HK.out,HSTP.out];rfl);go_wp2_with (go_at_call 72;first|((with_reducible refine(hw1 _).mono ?_);rintro e w1 ⟨rfl,rfl⟩)|((with_reducible refine(hw2 _).mono ?_);rintro e w1 ⟨rfl,rfl⟩)|((with_reducible refine(hw3 _).mono ?_);rintro e w1 ⟨rfl,rfl⟩));go_ret;exact⟨zl E.out.symm,by rw [HBZ.out];exact HFIN.out _ (HBQ.out.trans (HBX.out.mono HBQ.out.size))⟩):P:=h
theorem zzc10{w:World}{B:Nat}{v0 v1 v2 v3 v4 v5 v6 v7 v8 v9:Value}{l:List Value}{T:Nat}{o:Nat×Nat}(h:w.heap[B]?=some (.cells (v0::v1::v2::v3::v4::v5::v6::v7::v8::v9::l).toArray T o)):w.cell? ⟨B,0,none⟩=some v0/\w.cell? ⟨B,1,none⟩=some v1/\w.cell? ⟨B,2,none⟩=some v2/\w.cell? ⟨B,3,none⟩=some v3/\w.cell? ⟨B,4,none⟩=some v4/\w.cell? ⟨B,5,none⟩=some v5/\w.cell? ⟨B,6,none⟩=some v6/\w.cell? ⟨B,7,none⟩=some v7/\w.cell? ⟨B,8,none⟩=some v8/\w.cell? ⟨B,9,none⟩=some v9:=⟨zzq0 w B 0 _ _ _ h,zzq0 w B 1 _ _ _ h,zzq0 w B 2 _ _ _ h,zzq0 w B 3 _ _ _ h,zzq0 w B 4 _ _ _ h,zzq0 w B 5 _ _ _ h,zzq0 w B 6 _ _ _ h,zzq0 w B 7 _ _ _ h,zzq0 w B 8 _ _ _ h,zzq0 w B 9 _ _ _ h⟩
theorem zz185{P:Prop}(h:P:=by
 clear hq;go_wp2_with fail;refine hop.mono ?_;rintro e9 w1 ⟨rfl,hb1⟩;clear b0 b1 b2 b3 b4 b5 c0 c1 c2 c3 c4 c5 c6 c7 c8 c9 q0 q1 q2 q3 q4 q5 q6 q7 q8 q9 hlu hlx hlr;have hU1:=HU.out.below hb1;have hX1:=HX.out.below hb1;have hR1:=(hb1.block _ (zd HRB.out)).trans HRB.out;have b0:=hU1.c0;have b1:=hU1.c1;have b2:=hU1.c2;have b3:=hU1.c3;have b4:=hU1.c4;have b5:=hU1.c5;have c0:=hX1.c0;have c1:=hX1.c1;have c2:=hX1.c2;have c3:=hX1.c3;have c4:=hX1.c4;have c5:=hX1.c5;have c6:=hX1.c6;have c7:=hX1.c7;have c8:=hX1.c8;have c9:=hX1.c9;obtain ⟨q0,q1,q2,q3,q4,q5,q6,q7,q8,q9⟩:=zzc10 hR1;have hlu:=hU1.lt;have hlx:=hX1.lt;have hlr:=zd hR1;clear hU1 hX1 hR1;go_wp2_with fail;go_meet
 case rel=>exact⟨true,rfl,E,zzH hb1⟩):P:=h
theorem zz186{P:Prop}(h:P:=by
 go_wp2;go_ret;exact⟨zl E.out.symm,by rw [HBZ.out];exact HFIN.out _ HBk.out⟩):P:=h
theorem zzX1:type_of% (And.intro @Bool.true_or (And.intro @Bool.false_or (And.intro @Bool.true_and (And.intro @Bool.and_true (And.intro @Bool.or_true @Bool.or_false))))):=And.intro @Bool.true_or (And.intro @Bool.false_or (And.intro @Bool.true_and (And.intro @Bool.and_true (And.intro @Bool.or_true @Bool.or_false))))
theorem zzX2:type_of% (And.intro @Bool.true_or (And.intro @Bool.false_or (And.intro @Bool.true_and (And.intro @Bool.and_true (And.intro @Bool.false_and (And.intro @Bool.and_false (And.intro @Bool.or_self (And.intro @Bool.or_false @Bool.or_true)))))))):=And.intro @Bool.true_or (And.intro @Bool.false_or (And.intro @Bool.true_and (And.intro @Bool.and_true (And.intro @Bool.false_and (And.intro @Bool.and_false (And.intro @Bool.or_self (And.intro @Bool.or_false @Bool.or_true)))))))
theorem zz187{P:Prop}(h:P:=by
 rcases HOP.out with rfl|rfl
 all_goals
  go_wp2_with fail;refine(HWR.out _).mono ?_;rintro e9 w1 ⟨rfl,-,rfl⟩;go_wp2;go_ret;exact⟨zl E.out.symm,by rw [HBZ.out];exact HFIN.out _ (zzR _ _)⟩):P:=h
theorem zz188{P:Prop}(h:P:=by
 clear hv HC;go_in;go_wp2_with fail;refine hn.mono ?_;rintro e w1 ⟨rfl,rfl⟩;go_wp2;go_ret;exact⟨zcF E.out.symm,zzR _ _⟩):P:=h
theorem zz190{P:Prop}(h:P:=by
 simp only [q1]at E0
 try simp only [zzX3]at E0
 go_wp2_with fail;refine hop2.mono ?_;rintro e w2 ⟨rfl,rfl⟩;go_wp2;go_ret;exact⟨zl E0.out.symm,by rw [HBZ.out];exact HB1.out⟩):P:=h
theorem zz189{P:Prop}(h:P:=by
 simp only [t0]at E0;have t0':=zkn t0
 cases t1:(x.name.toList== [123,125])with
 |true=>
  simp only [t1]at E0
  try simp only [zzX3]at E0
  go_wp2_with fail;refine hop2.mono ?_;rintro e w2 ⟨rfl,rfl⟩;go_wp2;go_ret;exact⟨zl E0.out.symm,by rw [HBZ.out];exact HB1.out⟩
 |false=>
  simp only [t1]at E0
  cases t2:(x.name.toList== [124])with
  |true=>
   simp only [t2]at E0
   cases q2:((x.src.length:Int)==2)with
   |true=>
    simp only [q2]at E0
    try simp only [zzX3]at E0
    go_wp2_with fail;refine hop2.mono ?_;rintro e w2 ⟨rfl,rfl⟩;go_wp2;go_ret;exact⟨zl E0.out.symm,by rw [HBZ.out];exact HB1.out⟩
   |false=>
    simp only [q2]at E0
    try simp only [zzX3]at E0
    go_wp2_with fail;refine hop2.mono ?_;rintro e w2 ⟨rfl,rfl⟩;go_wp2;go_ret;exact⟨zl E0.out.symm,by rw [HBZ.out];exact HB1.out⟩
  |false=>
   simp only [t2]at E0
   try simp only [zzX3]at E0
   go_wp2_with fail;refine hop2.mono ?_;rintro e w2 ⟨rfl,rfl⟩;go_wp2;go_ret;exact⟨zl E0.out.symm,by rw [HBZ.out];exact HB1.out⟩):P:=h
theorem zz191{P:Prop}(h:P:=by
 simp only [q2]at E0
 try simp only [zzX3]at E0
 go_wp2_with fail;refine hop2.mono ?_;rintro e w2 ⟨rfl,rfl⟩;go_wp2;go_ret;exact⟨zl E0.out.symm,by rw [HBZ.out];exact HB1.out⟩):P:=h
theorem zz193{P:Prop}(h:P:=by
 try simp only [zzX3]at E0
 go_wp2_with fail;refine hop2.mono ?_;rintro e w2 ⟨rfl,rfl⟩;go_wp2_with fail;refine hc2.mono ?_;rintro e w3 ⟨rfl,hb3⟩;have c5':=(HX1.out.below hb3).c5;have c7':=(HX1.out.below hb3).c7;have hlx3:=(HX1.out.below hb3).lt;have HB3:Hid (Below B w w3):=zzH (HB1.out.trans (hb3.mono (by have:=HB1.out.size;have:=HBZ.out;omega)));clear hb3 c0 c3 c5 c7;go_wp2;go_ret;exact⟨zl E0.out.symm,by rw [HBZ.out];exact HB3.out⟩):P:=h
theorem zz192{P:Prop}(h:P:=by
 simp only [q2]at E0
 try simp only [zzX3]at E0
 go_wp2_with fail;refine hop2.mono ?_;rintro e w2 ⟨rfl,rfl⟩;go_wp2_with fail;refine hc2.mono ?_;rintro e w3 ⟨rfl,hb3⟩;have c5':=(HX1.out.below hb3).c5;have c7':=(HX1.out.below hb3).c7;have hlx3:=(HX1.out.below hb3).lt;have HB3:Hid (Below B w w3):=zzH (HB1.out.trans (hb3.mono (by have:=HB1.out.size;have:=HBZ.out;omega)));clear hb3 c0 c3 c5 c7;go_wp2;go_ret;exact⟨zl E0.out.symm,by rw [HBZ.out];exact HB3.out⟩):P:=h
theorem zz194{P:Prop}(h:P:=by
 go_wp2_with fail;refine(HAW.out _ HW1.out).mono ?_;rintro e wz ⟨rfl,HFZ⟩;go_wp2;go_ret;exact⟨rfl,HFZ.out⟩):P:=h
theorem zz195{P:Prop}(h:P:=by
 go_wp2_with fail;refine(HAW.out _ HW3.out).mono ?_;rintro e wz ⟨rfl,HFZ⟩;go_wp2;go_ret;exact⟨rfl,HFZ.out⟩):P:=h
theorem zz196{P:Prop}(h:P:=by
 obtain⟨a,b,rfl⟩:=zq5 hl;obtain⟨y0,h0,_⟩:=hf 0 _ 3 0 1 rfl rfl rfl cI;obtain⟨y1,h1,_⟩:=hf 1 _ 3 1 1 rfl rfl rfl cI;obtain⟨n0,e0,i0⟩:=zbV Tryz.underlying3 h0;obtain⟨n1,e1,i1⟩:=zbV Tryz.underlying3 h1;obtain rfl:=zbo e0;obtain rfl:=zbo e1;exact⟨⟨n0,n1⟩,rfl,i0,i1⟩):P:=h
def I64 (z:Int):Prop:= -9223372036854775808<=z/\z<=9223372036854775807
instance (z:Int):Decidable (I64 z):=by unfold I64;infer_instance
theorem zl {a b:Bool} (h:a=b):Ending.returned (.bool a)= .returned (.bool b):=by rw [h]
theorem zcF {k:IntKind} {a b:Int} (h:a=b):Ending.returned (.int k a)= .returned (.int k b):=by rw [h]
theorem wrap_i64 (z:Int):I64 (wrap64 z):=by unfold I64 wrap64;omega
def hi (y:Int) (k:Nat):Int:= -y/2^k
inductive Tm where
 |mk (kind int gen:Int) (name func:ByteArray) (arity:Int) (items:List Tm) (bytes:ByteArray) (bits:Int)
namespace Tm
def kind:Tm->Int|.mk a _ _ _ _ _ _ _ _=>a
def int:Tm->Int|.mk _ a _ _ _ _ _ _ _=>a
def gen:Tm->Int|.mk _ _ a _ _ _ _ _ _=>a
def name:Tm->ByteArray|.mk _ _ _ a _ _ _ _ _=>a
def func:Tm->ByteArray|.mk _ _ _ _ a _ _ _ _=>a
def arity:Tm->Int|.mk _ _ _ _ _ a _ _ _=>a
def items:Tm->List Tm|.mk _ _ _ _ _ _ a _ _=>a
def bytes:Tm->ByteArray|.mk _ _ _ _ _ _ _ a _=>a
def bits:Tm->Int|.mk _ _ _ _ _ _ _ _ a=>a
def Ok (t:Tm):Prop:=I64 t.kind/\I64 t.int/\I64 t.gen/\t.name.size<=maxLen/\t.func.size<=maxLen/\I64 t.arity/\t.items.length<=maxLen/\t.bytes.size<=maxLen/\I64 t.bits
end Tm
structure RArg where
 kind:Int
 n:Int
structure RCase where
 lit:Int
 «to»:Int
structure RSeg where
 type:Int
 val:RArg
 size:RArg
 little:Bool
structure RIns where
 op:Int
 dst:RArg
 src:List RArg
 «to»:Int
 n:Int
 live:Int
 name:ByteArray
 cases:List RCase
 segs:List RSeg
abbrev zzrIot(X:World)(B:Nat)(o:Nat)(v:RIns)(a0:Option Addr)(b0:Nat)(a1:Option Addr)(b1:Nat)(a2:Option Addr)(b2:Nat):Prop:=X.cell? ⟨B,o,none⟩=some (.int .i64 v.op)/\X.cell? ⟨B,o+1,none⟩=some (.int .i64 v.dst.kind)/\X.cell? ⟨B,o+2,none⟩=some (.int .i64 v.dst.n)/\X.cell? ⟨B,o+3,none⟩=some (.slice a0 v.src.length b0)/\X.cell? ⟨B,o+4,none⟩=some (.int .i64 v.to)/\X.cell? ⟨B,o+5,none⟩=some (.int .i64 v.n)/\X.cell? ⟨B,o+6,none⟩=some (.int .i64 v.live)/\X.cell? ⟨B,o+7,none⟩=some (.string v.name)/\X.cell? ⟨B,o+8,none⟩=some (.slice a1 v.cases.length b1)/\X.cell? ⟨B,o+9,none⟩=some (.slice a2 v.segs.length b2)
structure RFunc where
 name:ByteArray
 arity:Int
 pub:Bool
 entry:Int
structure RFun where
 arity:Int
 free:Int
 entry:Int
structure RUnit where
 mdl:ByteArray
 vsn:Int
 lits:List Tm
 funcs:List RFunc
 funs:List RFun
 code:List RIns
abbrev zzt(t:Tm)(a:Option Addr)(b:Nat):Array Value:=#[.int .i64 t.kind,.int .i64 t.int,.int .i64 t.gen,.string t.name,.string t.func,.int .i64 t.arity,.slice a t.items.length b,.string t.bytes,.int .i64 t.bits]
abbrev zzi(x:RIns)(a:Option Addr)(b:Nat)(c:Option Addr)(d:Nat)(e:Option Addr)(f:Nat):Array Value:=#[.int .i64 x.op,.int .i64 x.dst.kind,.int .i64 x.dst.n,.slice a x.src.length b,.int .i64 x.to,.int .i64 x.n,.int .i64 x.live,.string x.name,.slice c x.cases.length d,.slice e x.segs.length f]
abbrev zzu(u:RUnit)(a:Option Addr)(b:Nat)(c:Option Addr)(d:Nat)(e:Option Addr)(f:Nat)(g:Option Addr)(h:Nat):Array Value:=#[.string u.mdl,.int .i64 u.vsn,.slice a u.lits.length b,.slice c u.funcs.length d,.slice e u.funs.length f,.slice g u.code.length h]
abbrev zzrU(X:World)(B:Nat)(v:RUnit)(a0:Option Addr)(b0:Nat)(a1:Option Addr)(b1:Nat)(a2:Option Addr)(b2:Nat)(a3:Option Addr)(b3:Nat)(r:Prop):Prop:=X.cell? ⟨B,0,none⟩=some (.string v.mdl)/\X.cell? ⟨B,1,none⟩=some (.int .i64 v.vsn)/\X.cell? ⟨B,2,none⟩=some (.slice a0 v.lits.length b0)/\X.cell? ⟨B,3,none⟩=some (.slice a1 v.funcs.length b1)/\X.cell? ⟨B,4,none⟩=some (.slice a2 v.funs.length b2)/\X.cell? ⟨B,5,none⟩=some (.slice a3 v.code.length b3)/\r
def SlAt {α:Type} (w:World) (size:Nat) (R:List Value->α->Prop) (ao:Option Addr) (l:List α):Prop:=
 l= []\/ ∃b off,ao=some ⟨b,off,none⟩/\b<w.heap.size/\ ∀j (h:j<l.length),∃cs:List Value,cs.length=size/\(∀i,i<size->w.cell? ⟨b,off+j*size+i,none⟩=cs[i]?)/\R cs l[j]
theorem SlAt.mono {α:Type} {w w':World} {size:Nat} {R R':List Value->α->Prop} {ao:zzA} {l:List α} (h:SlAt w size R ao l) (hb:Below w.heap.size w w') (hR: ∀cs a,R cs a->R' cs a):SlAt w' size R' ao l:=by
 rcases h with h|⟨b,off,e,hB,hr⟩
 ·exact .inl h
 ·refine .inr ⟨b,off,e,zzW hB hb.size,fun j hj=>?_⟩
  obtain⟨cs,hl,hc,hR'⟩:=hr j hj;exact⟨cs,hl,fun i hi=>(hb.cell (p:=⟨b,off+j*size+i,none⟩) hB).trans (hc i hi),hR _ _ hR'⟩
theorem SlAt.row {α:Type} {w:World} {size:Nat} {R:List Value->α->Prop} {ao:zzA} {l:List α} (h:SlAt w size R ao l) {k:Nat} (hk:k<l.length):
  ∃b off,ao=some ⟨b,off,none⟩/\b<w.heap.size/\ ∀j (h:j<l.length),∃cs:List Value,cs.length=size/\(∀i,i<size->w.cell? ⟨b,off+j*size+i,none⟩=cs[i]?)/\R cs l[j]:=by
 rcases h with h|h
 ·rw [h]at hk;exact absurd hk (zzC _)
 ·exact h
theorem SlAt.nil {α:Type} (w:World) (size:Nat) (R:List Value->α->Prop) (ao:zzA):SlAt w size R ao []:=.inl rfl
def TmAt (w:World):Nat->List Value->Tm->Prop
 |0,_,_=>False
 |f+1,cs,t=>(∃ao c,cs= [.int .i64 t.kind,.int .i64 t.int,.int .i64 t.gen,.string t.name,.string t.func,.int .i64 t.arity,.slice ao t.items.length c,.string t.bytes,.int .i64 t.bits]/\SlAt w 9 (TmAt w f) ao t.items)/\t.Ok
theorem TmAt.below {w w':World} (hb:Below w.heap.size w w'): ∀{f:Nat} {cs:List Value} {t:Tm},TmAt w f cs t->TmAt w' f cs t
 |0,_,_,h=>h
 |_+1,_,_,⟨⟨ao,c,e,hs⟩,ho⟩=>⟨⟨ao,c,e,hs.mono hb fun _ _ h=>TmAt.below hb h⟩,ho⟩
theorem SlAt.imp {α:Type} {w:World} {size:Nat} {R R':List Value->α->Prop} {ao:zzA} {l:List α} (h:SlAt w size R ao l) (hR: ∀cs a,R cs a->R' cs a):SlAt w size R' ao l:=
 h.elim .inl fun⟨b,off,e,hB,hr⟩=>.inr ⟨b,off,e,hB,fun j hj=>(hr j hj).elim fun cs ⟨a,b,c⟩=>⟨cs,a,b,hR _ _ c⟩⟩
theorem TmAt.succ {w:World}: ∀{f:Nat} {cs:List Value} {t:Tm},TmAt w f cs t->TmAt w (f+1) cs t
 |0,_,_,h=>h.elim
 |f+1,_,_,⟨⟨ao,c,e,hs⟩,ho⟩=>⟨⟨ao,c,e,hs.imp fun _ _ h=>TmAt.succ h⟩,ho⟩
theorem TmAt.le {w:World} {f g:Nat} (h:f<=g) {cs:List Value} {t:Tm} (ht:TmAt w f cs t):TmAt w g cs t:=by
 induction h with
 |refl=>exact ht
 |step _ ih=>exact ih.succ
def TmA (w:World) (cs:List Value) (t:Tm):Prop:= ∃f,TmAt w f cs t
theorem TmA.below {w w':World} {cs:List Value} {t:Tm} (h:TmA w cs t) (hb:Below w.heap.size w w'):TmA w' cs t:=h.elim fun f h=>⟨f,h.below hb⟩
theorem TmAt.ok {w:World}: ∀{f:Nat} {cs:List Value} {t:Tm},TmAt w f cs t->t.Ok
 |0,_,_,h=>h.elim
 |_+1,_,_,⟨_,ho⟩=>ho
def zeG (cs:List Value) (a:RArg):Prop:=cs= [.int .i64 a.kind,.int .i64 a.n]/\I64 a.kind/\I64 a.n
def zed (cs:List Value) (a:RCase):Prop:=cs= [.int .i64 a.lit,.int .i64 a.to]/\I64 a.lit/\I64 a.to
def zfu (cs:List Value) (a:RSeg):Prop:=cs= [.int .i64 a.type,.int .i64 a.val.kind,.int .i64 a.val.n,.int .i64 a.size.kind,.int .i64 a.size.n,.bool a.little]/\I64 a.type/\I64 a.val.kind/\I64 a.val.n/\I64 a.size.kind/\I64 a.size.n
def zfp (cs:List Value) (a:RFunc):Prop:=cs= [.string a.name,.int .i64 a.arity,.bool a.pub,.int .i64 a.entry]/\a.name.size<=maxLen/\I64 a.arity/\I64 a.entry
def zbX (cs:List Value) (a:RFun):Prop:=cs= [.int .i64 a.arity,.int .i64 a.free,.int .i64 a.entry]/\I64 a.arity/\I64 a.free/\I64 a.entry
def InsR (w:World) (cs:List Value) (x:RIns):Prop:=
 (∃so sc co cc go gc,cs= [.int .i64 x.op,.int .i64 x.dst.kind,.int .i64 x.dst.n,.slice so x.src.length sc,.int .i64 x.to,.int .i64 x.n,.int .i64 x.live,.string x.name,.slice co x.cases.length cc,.slice go x.segs.length gc] /\
  SlAt w 2 zeG so x.src/\SlAt w 2 zed co x.cases/\SlAt w 6 zfu go x.segs) /\
 I64 x.op/\I64 x.dst.kind/\I64 x.dst.n/\x.src.length<=maxLen/\I64 x.to/\I64 x.n/\I64 x.live/\x.name.size<=maxLen/\x.cases.length<=maxLen/\x.segs.length<=maxLen
theorem InsR.below {w w':World} {cs:List Value} {x:RIns} (h:InsR w cs x) (hb:Below w.heap.size w w'):InsR w' cs x:=by
 obtain⟨⟨so,sc,co,cc,go,gc,e,h1,h2,h3⟩,hr⟩:=h;exact⟨⟨so,sc,co,cc,go,gc,e,h1.mono hb fun _ _ h=>h,h2.mono hb fun _ _ h=>h,h3.mono hb fun _ _ h=>h⟩,hr⟩
def UR (w:World) (cs:List Value) (u:RUnit):Prop:=
 (∃lo lc fo fc go gc co cc,cs= [.string u.mdl,.int .i64 u.vsn,.slice lo u.lits.length lc,.slice fo u.funcs.length fc,.slice go u.funs.length gc,.slice co u.code.length cc] /\
  SlAt w 9 (TmA w) lo u.lits/\SlAt w 4 zfp fo u.funcs/\SlAt w 3 zbX go u.funs/\SlAt w 10 (InsR w) co u.code) /\
 u.mdl.size<=maxLen/\I64 u.vsn/\u.lits.length<=maxLen/\u.funcs.length<=maxLen/\u.funs.length<=maxLen/\u.code.length<=maxLen
theorem UR.below {w w':World} {cs:List Value} {u:RUnit} (h:UR w cs u) (hb:Below w.heap.size w w'):UR w' cs u:=by
 obtain⟨⟨lo,lc,fo,fc,go,gc,co,cc,e,h1,h2,h3,h4⟩,hr⟩:=h;exact⟨⟨lo,lc,fo,fc,go,gc,co,cc,e,h1.mono hb fun _ _ h=>h.below hb,h2.mono hb fun _ _ h=>h,h3.mono hb fun _ _ h=>h,h4.mono hb fun _ _ h=>h.below hb⟩,hr⟩
section
variable {H:Type} {enc:TypeId × Value->H} {P:Program} {w:World} {base:Nat} {spare:Nat->Bool} {held:Bool}
theorem zqH {n:Int} (h:(Lit.int .i64 n).wf=true):I64 n:=by
 simp [Lit.wf,IntKind.min,IntKind.max,IntKind.bits,IntKind.signed]at h;unfold I64;omega
theorem zbV {t:TypeId} {fuel:Nat} {cs:List Value} {x:DataW H × List MemPlace} (ht:P.underlying t=some (.int .i64)) (h:DataW.trod enc P w base spare held fuel t cs=some x): ∃n,cs= [.int .i64 n]/\I64 n:=by
 obtain⟨n,e,_,hw⟩:=DataW.trod_int ht h;exact⟨n,e,zqH hw⟩
theorem zeY {t:TypeId} {fuel:Nat} {cs:List Value} {x:DataW H × List MemPlace} (ht:P.underlying t=some .string) (h:DataW.trod enc P w base spare held fuel t cs=some x): ∃s,cs= [.string s]/\s.size<=maxLen:=by
 obtain⟨n,e,_,hw⟩:=DataW.trod_string ht h;exact⟨n,e,hw⟩
end
def zcZ (rec:List Tm->Int->Int):List Tm->Int->Int
 |[],m=>m
 |t::l,m=>if m<0 then m else
  if m<t.name.size\/m<t.func.size\/m<t.bytes.size then -1 else
   zcZ rec l (rec t.items (m-1-t.name.size/8-t.func.size/8-t.bytes.size/8))
def zbG:Nat->List Tm->Int->Int
 |0,_,m=>m
 |f+1,l,m=>zcZ (zbG f) l m
theorem zgY {rec:List Tm->Int->Int} (h: ∀l m,-1<=m-> -1<=rec l m/\rec l m<=m): ∀(l:List Tm) (m:Int),-1<=m-> -1<=zcZ rec l m/\zcZ rec l m<=m
 |[],m,hm=>⟨hm,Int.le_refl _⟩
 |t::l,m,hm=>by
  unfold zcZ;split
  ·exact⟨hm,Int.le_refl _⟩
  ·split
   ·omega
   ·have h1:=h t.items (m-1-t.name.size/8-t.func.size/8-t.bytes.size/8) (by omega)
    have:=zgY h l _ h1.1;omega
theorem zeT: ∀(f:Nat) (l:List Tm) (m:Int),-1<=m-> -1<=zbG f l m/\zbG f l m<=m
 |0,_,_,hm=>⟨hm,Int.le_refl _⟩
 |f+1,l,m,hm=>zgY (zeT f) l m hm
theorem zhs {rec:List Tm->Int->Int} {l:List Tm} {m:Int} (h:l= []\/m<0):zcZ rec l m=m:=by
 rcases h with rfl|h
 ·rfl
 ·cases l with
  |nil=>rfl
  |cons t l=>unfold zcZ;rw [if_pos h]
theorem zdu {α:Type} {l:List α} {k:Nat} (h:k<l.length):l.drop k=l[k]::l.drop (k+1):=List.drop_eq_getElem_cons h
theorem zlO {rec:List Tm->Int->Int} {l:List Tm} {k:Nat} (h:k<l.length) {m:Int} (h0:0<=m) (hl:m<l[k].name.size\/m<l[k].func.size\/m<l[k].bytes.size):zcZ rec (l.drop k) m= -1:=by
 rw [zdu h,zcZ,if_neg (by omega),if_pos hl]
theorem zkU {rec:List Tm->Int->Int} {l:List Tm} {k:Nat} (h:k<l.length) {m:Int} (h0:0<=m) (hl: ¬(m<l[k].name.size\/m<l[k].func.size\/m<l[k].bytes.size)):
  zcZ rec (l.drop k) m=zcZ rec (l.drop (k+1)) (rec l[k].items (m-1-l[k].name.size/8-l[k].func.size/8-l[k].bytes.size/8)):=by
 rw [zdu h,zcZ,if_neg (by omega),if_neg hl]
def zcK (n:ByteArray) (a:Int):List RFunc->Nat->Option Nat
 |[],_=>none
 |f::l,i=>if f.name=n/\f.arity=a then some i else zcK n a l (i+1)
def zfx (n:ByteArray) (a:Int) (l:List RFunc):Int:=match zcK n a l 0 with
 |some i=>i
 |none=>0
def zgr (n:ByteArray) (a:Int) (l:List RFunc):Bool:=(zcK n a l 0).isSome
theorem zng {n:ByteArray} {a:Int} {l:List RFunc} {k i:Nat} (h:k<l.length) (hh:l[k].name=n/\l[k].arity=a):zcK n a (l.drop k) i=some i:=by
 rw [zdu h,zcK,if_pos hh]
theorem zlc {n:ByteArray} {a:Int} {l:List RFunc} {k i:Nat} (h:k<l.length) (hh: ¬(l[k].name=n/\l[k].arity=a)):zcK n a (l.drop k) i=zcK n a (l.drop (k+1)) (i+1):=by
 rw [zdu h,zcK,if_neg hh]
def zbu (op:Int):Bool:=decide (op∈([2,3,4,14,15,16,17,18,19,20,21,22,23,27,35,36]:List Int))
section
variable {w:World} {ao:Option Addr} {k:Nat}
theorem SlAt.tm {f:Nat} {l:List Tm} (h:SlAt w 9 (TmAt w (f+1)) ao l) (hk:k<l.length):
  ∃b off ai c,ao=some ⟨b,off,none⟩/\b<w.heap.size/\w.cell? ⟨b,off+k*9,none⟩=some (.int .i64 l[k].kind)/\w.cell? ⟨b,off+k*9+1,none⟩=some (.int .i64 l[k].int) /\
   w.cell? ⟨b,off+k*9+2,none⟩=some (.int .i64 l[k].gen)/\w.cell? ⟨b,off+k*9+3,none⟩=some (.string l[k].name)/\w.cell? ⟨b,off+k*9+4,none⟩=some (.string l[k].func) /\
   w.cell? ⟨b,off+k*9+5,none⟩=some (.int .i64 l[k].arity)/\w.cell? ⟨b,off+k*9+6,none⟩=some (.slice ai l[k].items.length c)/\w.cell? ⟨b,off+k*9+7,none⟩=some (.string l[k].bytes) /\
   w.cell? ⟨b,off+k*9+8,none⟩=some (.int .i64 l[k].bits)/\SlAt w 9 (TmAt w f) ai l[k].items/\l[k].Ok:=by
 obtain⟨b,off,e,hb,hr⟩:=h.row hk;obtain⟨cs,_,hc,⟨ai,c,rfl,hs⟩,ho⟩:=hr k hk;exact⟨b,off,ai,c,e,hb,hc 0 (by decide),hc 1 (by decide),hc 2 (by decide),hc 3 (by decide),hc 4 (by decide),hc 5 (by decide),hc 6 (by decide),hc 7 (by decide),hc 8 (by decide),hs,ho⟩
theorem SlAt.arg {l:List RArg} (h:SlAt w 2 zeG ao l) (hk:k<l.length):
  ∃b off,ao=some ⟨b,off,none⟩/\b<w.heap.size/\w.cell? ⟨b,off+k*2,none⟩=some (.int .i64 l[k].kind)/\w.cell? ⟨b,off+k*2+1,none⟩=some (.int .i64 l[k].n)/\I64 l[k].kind/\I64 l[k].n:=by
 obtain⟨b,off,e,hb,hr⟩:=h.row hk;obtain⟨cs,_,hc,rfl,h1,h2⟩:=hr k hk;exact⟨b,off,e,hb,hc 0 (by decide),hc 1 (by decide),h1,h2⟩
theorem SlAt.case {l:List RCase} (h:SlAt w 2 zed ao l) (hk:k<l.length):
  ∃b off,ao=some ⟨b,off,none⟩/\b<w.heap.size/\w.cell? ⟨b,off+k*2,none⟩=some (.int .i64 l[k].lit)/\w.cell? ⟨b,off+k*2+1,none⟩=some (.int .i64 l[k].to)/\I64 l[k].lit/\I64 l[k].to:=by
 obtain⟨b,off,e,hb,hr⟩:=h.row hk;obtain⟨cs,_,hc,rfl,h1,h2⟩:=hr k hk;exact⟨b,off,e,hb,hc 0 (by decide),hc 1 (by decide),h1,h2⟩
theorem SlAt.seg {l:List RSeg} (h:SlAt w 6 zfu ao l) (hk:k<l.length):
  ∃b off,ao=some ⟨b,off,none⟩/\b<w.heap.size/\w.cell? ⟨b,off+k*6,none⟩=some (.int .i64 l[k].type)/\w.cell? ⟨b,off+k*6+1,none⟩=some (.int .i64 l[k].val.kind)/\w.cell? ⟨b,off+k*6+2,none⟩=some (.int .i64 l[k].val.n) /\
   w.cell? ⟨b,off+k*6+3,none⟩=some (.int .i64 l[k].size.kind)/\w.cell? ⟨b,off+k*6+4,none⟩=some (.int .i64 l[k].size.n)/\w.cell? ⟨b,off+k*6+5,none⟩=some (.bool l[k].little) /\
   I64 l[k].type/\I64 l[k].val.kind/\I64 l[k].val.n/\I64 l[k].size.kind/\I64 l[k].size.n:=by
 obtain⟨b,off,e,hb,hr⟩:=h.row hk;obtain⟨cs,_,hc,rfl,h1⟩:=hr k hk;exact⟨b,off,e,hb,hc 0 (by decide),hc 1 (by decide),hc 2 (by decide),hc 3 (by decide),hc 4 (by decide),hc 5 (by decide),h1⟩
theorem SlAt.func {l:List RFunc} (h:SlAt w 4 zfp ao l) (hk:k<l.length):
  ∃b off,ao=some ⟨b,off,none⟩/\b<w.heap.size/\w.cell? ⟨b,off+k*4,none⟩=some (.string l[k].name)/\w.cell? ⟨b,off+k*4+1,none⟩=some (.int .i64 l[k].arity)/\w.cell? ⟨b,off+k*4+2,none⟩=some (.bool l[k].pub) /\
   w.cell? ⟨b,off+k*4+3,none⟩=some (.int .i64 l[k].entry)/\l[k].name.size<=maxLen/\I64 l[k].arity/\I64 l[k].entry:=by
 obtain⟨b,off,e,hb,hr⟩:=h.row hk;obtain⟨cs,_,hc,rfl,h1⟩:=hr k hk;exact⟨b,off,e,hb,hc 0 (by decide),hc 1 (by decide),hc 2 (by decide),hc 3 (by decide),h1⟩
theorem SlAt.fn {l:List RFun} (h:SlAt w 3 zbX ao l) (hk:k<l.length):
  ∃b off,ao=some ⟨b,off,none⟩/\b<w.heap.size/\w.cell? ⟨b,off+k*3,none⟩=some (.int .i64 l[k].arity)/\w.cell? ⟨b,off+k*3+1,none⟩=some (.int .i64 l[k].free)/\w.cell? ⟨b,off+k*3+2,none⟩=some (.int .i64 l[k].entry) /\
   I64 l[k].arity/\I64 l[k].free/\I64 l[k].entry:=by
 obtain⟨b,off,e,hb,hr⟩:=h.row hk;obtain⟨cs,_,hc,rfl,h1⟩:=hr k hk;exact⟨b,off,e,hb,hc 0 (by decide),hc 1 (by decide),hc 2 (by decide),h1⟩
theorem SlAt.ins {l:List RIns} (h:SlAt w 10 (InsR w) ao l) (hk:k<l.length):
  ∃b off so sc co cc go gc,ao=some ⟨b,off,none⟩/\b<w.heap.size/\w.cell? ⟨b,off+k*10,none⟩=some (.int .i64 l[k].op)/\w.cell? ⟨b,off+k*10+1,none⟩=some (.int .i64 l[k].dst.kind)/\w.cell? ⟨b,off+k*10+2,none⟩=some (.int .i64 l[k].dst.n) /\
   w.cell? ⟨b,off+k*10+3,none⟩=some (.slice so l[k].src.length sc)/\w.cell? ⟨b,off+k*10+4,none⟩=some (.int .i64 l[k].to)/\w.cell? ⟨b,off+k*10+5,none⟩=some (.int .i64 l[k].n)/\w.cell? ⟨b,off+k*10+6,none⟩=some (.int .i64 l[k].live) /\
   w.cell? ⟨b,off+k*10+7,none⟩=some (.string l[k].name)/\w.cell? ⟨b,off+k*10+8,none⟩=some (.slice co l[k].cases.length cc)/\w.cell? ⟨b,off+k*10+9,none⟩=some (.slice go l[k].segs.length gc) /\
   SlAt w 2 zeG so l[k].src/\SlAt w 2 zed co l[k].cases/\SlAt w 6 zfu go l[k].segs /\
   I64 l[k].op/\I64 l[k].dst.kind/\I64 l[k].dst.n/\l[k].src.length<=maxLen/\I64 l[k].to/\I64 l[k].n/\I64 l[k].live/\l[k].name.size<=maxLen/\l[k].cases.length<=maxLen/\l[k].segs.length<=maxLen:=by
 obtain⟨b,off,e,hb,hr⟩:=h.row hk;obtain⟨cs,_,hc,⟨so,sc,co,cc,go,gc,rfl,s1,s2,s3⟩,h1⟩:=hr k hk;exact⟨b,off,so,sc,co,cc,go,gc,e,hb,hc 0 (by decide),hc 1 (by decide),hc 2 (by decide),hc 3 (by decide),hc 4 (by decide),hc 5 (by decide),hc 6 (by decide),hc 7 (by decide),hc 8 (by decide),hc 9 (by decide),s1,s2,s3,h1⟩
end
theorem ze {w a b:World} (h:Below w.heap.size w a) (k:Below a.heap.size a b):Below w.heap.size w b:=h.trans (k.mono h.size)
theorem zm {B:Nat} {a w:World} (h:Below B a w) (n:Nat):Below B a (w.drewN n):=⟨h.os,h.tape,h.output,h.size,h.block⟩
theorem SlAt.zero {w:World} {ao:zzA} {l:List Tm} (h:SlAt w 9 (TmAt w 0) ao l):l= []:=by
 rcases h with h|⟨b,off,e,hb,hr⟩
 ·exact h
 ·cases l with
  |nil=>rfl
  |cons t l=>
   obtain⟨cs,_,_,hf⟩:=hr 0 (by simp);exact hf.elim
theorem SlAt.tms {w w':World} {f:Nat} {ao:zzA} {l:List Tm} (h:SlAt w 9 (TmAt w f) ao l) (hb:Below w.heap.size w w'):SlAt w' 9 (TmAt w' f) ao l:=h.mono hb fun _ _ h=>h.below hb
theorem ze5 {w:World} {ao:zzA} {l:List Tm} (h:SlAt w 9 (TmA w) ao l): ∃f,SlAt w 9 (TmAt w f) ao l:=by
 rcases h with h|⟨b,off,e,hb,hr⟩
 ·exact⟨0,.inl h⟩
 ·have: ∀m,m<=l.length-> ∃f,∀j (hj:j<l.length),j<m-> ∃cs:List Value,cs.length=9/\(∀i,i<9->w.cell? ⟨b,off+j*9+i,none⟩=cs[i]?)/\TmAt w f cs l[j]:=by
   intro m
   induction m with
   |zero=>exact fun _=>⟨0,fun j _ h=>absurd h (zzC _)⟩
   |succ m ih=>
    intro hm;obtain⟨f,hf⟩:=ih (by omega);obtain⟨cs,h1,h2,g,h3⟩:=hr m (by omega);refine⟨max f g,fun j hj hjm=>?_⟩;by_cases e:j=m
    ·subst e;exact⟨cs,h1,h2,TmAt.le (Nat.le_max_right _ _) h3⟩
    ·obtain⟨cs',a1,a2,a3⟩:=hf j hj (by omega)
     exact⟨cs',a1,a2,TmAt.le (Nat.le_max_left _ _) a3⟩
  obtain⟨f,hf⟩:=this l.length (zzL _);exact⟨f,.inr ⟨b,off,e,hb,fun j hj=>hf j hj hj⟩⟩
structure UP (w:World) (u:RUnit) (lo fo go co:Option Addr):Prop where
 lits:SlAt w 9 (TmA w) lo u.lits
 funcs:SlAt w 4 zfp fo u.funcs
 funs:SlAt w 3 zbX go u.funs
 code:SlAt w 10 (InsR w) co u.code
 mdlLen:u.mdl.size<=9223372036854775807
 vsn:I64 u.vsn
 litsLen:u.lits.length<=9223372036854775807
 funcsLen:u.funcs.length<=9223372036854775807
 funsLen:u.funs.length<=9223372036854775807
 codeLen:u.code.length<=9223372036854775807
theorem UP.below {w w':World} {u:RUnit} {lo fo go co:zzA} (h:UP w u lo fo go co) (hb:Below w.heap.size w w'):UP w' u lo fo go co:=
 ⟨h.lits.mono hb fun _ _ h=>h.below hb,h.funcs.mono hb fun _ _ h=>h,h.funs.mono hb fun _ _ h=>h,h.code.mono hb fun _ _ h=>h.below hb,h.mdlLen,h.vsn,h.litsLen,h.funcsLen,h.funsLen,h.codeLen⟩
structure UBox (w:World) (B:Nat) (u:RUnit) (lo fo go co:Option Addr) (lc fc gc cc:Nat):Prop where
 box:w.heap[B]?=some (.cells #[.string u.mdl,.int .i64 u.vsn,.slice lo u.lits.length lc,.slice fo u.funcs.length fc,.slice go u.funs.length gc,.slice co u.code.length cc] 27 (0,0))
theorem zmS {k:IntKind} {a b:Int} {c d:Bool} (h:a=b) (h':c=d):Ending.returned (.tuple #[.int k a,.bool c])= .returned (.tuple #[.int k b,.bool d]):=by rw [h,h']
theorem zd {w:World} {C:Nat} {o:Obj} (h:w.heap[C]?=some o):C<w.heap.size:=(Array.getElem?_eq_some_iff.1 h).1
section
variable {w:World} {B:Nat} {u:RUnit} {lo fo go co:Option Addr} {lc fc gc cc:Nat}
theorem UBox.lt (h:UBox w B u lo fo go co lc fc gc cc):B<w.heap.size:=zd h.box
theorem UBox.below {w':World} (h:UBox w B u lo fo go co lc fc gc cc) (hb:Below w.heap.size w w'):UBox w' B u lo fo go co lc fc gc cc:=⟨(hb.block B h.lt).trans h.box⟩
theorem UBox.c0 (h:UBox w B u lo fo go co lc fc gc cc):w.cell? ⟨B,0,none⟩=some (.string u.mdl):=by rw [zzq0 _ _ _ _ _ _ h.box];rfl
theorem UBox.c1 (h:UBox w B u lo fo go co lc fc gc cc):w.cell? ⟨B,1,none⟩=some (.int .i64 u.vsn):=by rw [zzq0 _ _ _ _ _ _ h.box];rfl
theorem UBox.c2 (h:UBox w B u lo fo go co lc fc gc cc):w.cell? ⟨B,2,none⟩=some (.slice lo u.lits.length lc):=by rw [zzq0 _ _ _ _ _ _ h.box];rfl
theorem UBox.c3 (h:UBox w B u lo fo go co lc fc gc cc):w.cell? ⟨B,3,none⟩=some (.slice fo u.funcs.length fc):=by rw [zzq0 _ _ _ _ _ _ h.box];rfl
theorem UBox.c4 (h:UBox w B u lo fo go co lc fc gc cc):w.cell? ⟨B,4,none⟩=some (.slice go u.funs.length gc):=by rw [zzq0 _ _ _ _ _ _ h.box];rfl
theorem UBox.c5 (h:UBox w B u lo fo go co lc fc gc cc):w.cell? ⟨B,5,none⟩=some (.slice co u.code.length cc):=by rw [zzq0 _ _ _ _ _ _ h.box];rfl
end
theorem zd3 (w:World) (u:RUnit) (lo fo go co:zzA) (lc fc gc cc:Nat):UBox (w.alloc (.cells #[.string u.mdl,.int .i64 u.vsn,.slice lo u.lits.length lc,.slice fo u.funcs.length fc,.slice go u.funs.length gc,.slice co u.code.length cc] 27)) w.heap.size u lo fo go co lc fc gc cc:=⟨zzF _ _⟩
theorem zne (u:RUnit) (lo fo go co:zzA) (lc fc gc cc:Nat) (n:ByteArray) (ar:Int) (w:World) (h:UP w u lo fo go co):
  Calls Tryz.prog 74 #[.agg (zzu u lo lc fo fc go gc co cc),.string n,.int .i64 ar] w fun e w'=>
   e= .returned (.tuple #[.int .i64 (zfx n ar u.funcs),.bool (zgr n ar u.funcs)])/\Below w.heap.size w w':=by
 unfold zzu;have HU:=zzH h;have r2:=h.funcsLen;have HI:Hid (zcK n ar u.funcs 0=zcK n ar (u.funcs.drop 0) 0):=zzH rfl;clear h;go_in;go_wp2_with fail;have hbx:=zd3 w u lo fo go co lc fc gc cc;have hba:Below w.heap.size w (w.alloc (.cells (zzu u lo lc fo fc go gc co cc) 27)):=zzE _ _;generalize w.alloc (.cells (zzu u lo lc fo fc go gc co cc) 27)=Wa at *;have HUa:=zzH (HU.out.below hba);have HBA:=zzH hba;generalize w.heap.size=B at hbx ⊢;have b3:=hbx.c3;clear hbx hba;go_loop [6,7,8] (fun rv sv iv=> ∃k:Nat,k<=u.funcs.length/\iv= .int .i64 k/\rv= .int .i64 0/\sv= .bool false/\Hid (zcK n ar u.funcs 0=zcK n ar (u.funcs.drop k) k)) (fun _ _ iv=>u.funcs.length-(intOf iv).toNat)
 case atStart=>exact⟨0,zzZ _,rfl,rfl,rfl,HI⟩
 case round=>
  obtain⟨k,hk,rfl,rfl,rfl,HK⟩:=hrel;by_cases hlt:k<u.funcs.length
  ·obtain⟨b,off,hao,hb,q0,q1,q2,q3,s1,s2,s3⟩:=HUa.out.funcs.func hlt
   subst hao;unfold maxLen at s1;have hhit:=zng (n:=n) (a:=ar) (i:=k) hlt;have hmiss:=zlc (n:=n) (a:=ar) (i:=k) hlt;have HH:=zzH hhit;have HM:=zzH hmiss;clear hhit hmiss;generalize u.funcs[k]=x at *;by_cases c1:x.name=n
   ·have hn:(x.name.toList==n.toList)=true:=by rw [c1];exact beq_self_eq_true _
    by_cases c2:x.arity=ar
    ·have ha:(x.arity==ar)=true:=by rw [c2];exact beq_self_eq_true _
     have E1:Hid (zfx n ar u.funcs=k):=zzH (by unfold zfx;rw [HK.out,HH.out ⟨c1,c2⟩]);have E2:Hid (zgr n ar u.funcs=true):=zzH (by unfold zgr;rw [HK.out,HH.out ⟨c1,c2⟩];rfl);clear c1 c2;go_wp2;go_ret2;exact⟨zmS E1.out.symm E2.out.symm,HBA.out⟩
    ·have ha:(x.arity==ar)=false:=zzB.2 c2
     have HK2:Hid (zcK n ar u.funcs 0=zcK n ar (u.funcs.drop (k+1)) (k+1)):=zzH (by rw [HK.out,HM.out (fun h=>c2 h.2)]);clear c1 c2;exact zz1
   ·have hn:(x.name.toList==n.toList)=false:=by
     rw [zzq19,zzq19,zzq1];exact fun e=>c1 (ByteArray.ext (by simpa using e))
    have HK2:Hid (zcK n ar u.funcs 0=zcK n ar (u.funcs.drop (k+1)) (k+1)):=zzH (by rw [HK.out,HM.out (fun h=>c1 h.1)]);clear c1;exact zz1
  ·have E:Hid (zcK n ar u.funcs 0=none):=zzH (by rw [HK.out,zzq10 (by omega)];rfl)
   have E1:Hid (zfx n ar u.funcs=0):=zzH (by unfold zfx;rw [E.out]);have E2:Hid (zgr n ar u.funcs=false):=zzH (by unfold zgr;rw [E.out];rfl);go_wp2;go_ret2;exact⟨zmS E1.out.symm E2.out.symm,HBA.out⟩
def wi (n a b:Int):Bool:=decide (a<=n)&&decide (n<=b)
theorem zd0 {n a b:Int} (h:a<=n) (h':n<=b):wi n a b=true:=by unfold wi;rw [decide_eq_true h,decide_eq_true h'];rfl
theorem zdx {n a b:Int} (h: ¬(a<=n/\n<=b)):wi n a b=false:=by
 unfold wi;by_cases h1:a<=n
 ·rw [decide_eq_true h1,decide_eq_false (fun h2=>h ⟨h1,h2⟩)];rfl
 ·rw [decide_eq_false h1];rfl
theorem zK (n a b:Int) (w:World):
  Calls Tryz.prog 47 #[.int .i64 n,.int .i64 a,.int .i64 b] w fun e w'=>e= .returned (.bool (wi n a b))/\w=w':=by
 by_cases h1:a<=n
 ·exact zz3
 ·exact zz4
def zbh (nl:Nat) (a:RArg):Bool:=if a.kind=1 then wi a.n 0 255 else if a.kind=2 then wi a.n 0 8191 else if a.kind=3 then wi a.n 0 ((nl:Int)-1)else false
theorem zeu (B:Nat) (u:RUnit) (lo fo go co:zzA) (lc fc gc cc:Nat) (a:RArg) (w:World) (hb:UBox w B u lo fo go co lc fc gc cc) (hl:u.lits.length<=9223372036854775807) (ha:I64 a.kind/\I64 a.n):
  Calls Tryz.prog 49 #[.pointer (some ⟨B,0,none⟩),.agg #[.int .i64 a.kind,.int .i64 a.n]] w fun e w'=>e= .returned (.bool (zbh u.lits.length a))/\Below w.heap.size w w':=by
 have hbe:Below w.heap.size w (w.alloc (.cells #[.int .i64 a.kind,.int .i64 a.n] 42)):=zzE _ _;have b2:=(hb.below hbe).c2;have hlt:=hb.lt;obtain⟨⟨x1,x2⟩,⟨y1,y2⟩⟩:=ha;obtain⟨ak,an⟩:=a;simp only at x1 x2 y1 y2;by_cases k1:ak=1
 ·subst k1
  have E:Hid (zbh u.lits.length ⟨1,an⟩=wi an 0 255):=zzH rfl;exact zz5
 ·by_cases k2:ak=2
  ·subst k2
   have E:Hid (zbh u.lits.length ⟨2,an⟩=wi an 0 8191):=zzH rfl;clear k1;exact zz5
  ·by_cases k3:ak=3
   ·subst k3
    have E:Hid (zbh u.lits.length ⟨3,an⟩=wi an 0 ((u.lits.length:Int)-1)):=zzH rfl;clear k1 k2;generalize u.lits.length=nl at *;have hw1:IntKind.i64.wrap ((nl:Int)-1)=(nl:Int)-1:=by rw [zzq2];omega
    go_in;go_wp2_with fail;go_quiet ((go_at_call 47;exact zze ((zK _ _ _ _).mono fun _ _ ⟨a,b⟩=>⟨a,b.symm⟩)));go_wp2;go_ret;exact⟨zl E.out.symm,zm hbe _⟩
   ·have E:Hid (zbh u.lits.length ⟨ak,an⟩=false):=zzH (by unfold zbh;rw [if_neg k1,if_neg k2,if_neg k3])
    have t1:(ak==1)=false:=zzB.2 k1;have t2:(ak==2)=false:=zzB.2 k2;have t3:(ak==3)=false:=zzB.2 k3;clear k1 k2 k3;go_in;exact zz6
def rowT:List (Int × Int × Int):=[(0,0,0),(3,1,1),(131,0,255),(131,2,2),(135,0,200),(7,1,1),(3,1,1),(3,1,1),(64,0,0),(70,1,1),(66,1,1),(66,2,2),(82,1,1),(203,0,255),(139,0,3),(12,0,0),(4,0,0),(4,0,0),(6,2,2),(6,2,2),(6,1,1),(6,1,1),(2,2,3),(2,2,3),(4,0,0),(0,0,0),(0,0,0),(2,2,2),(64,0,0),(0,0,0),(66,1,1),(199,1,1),(199,1,1),(197,0,0),(64,0,0),(161,0,0),(2,0,1),(64,0,0),(0,0,0),(64,0,0),(64,0,0)]
def RowsAt (w:World):Prop:=0<w.heap.size/\ ∀k (h:k<41),w.cell? ⟨0,k*3,none⟩=some (.int .i64 (rowT[k]'h).1)/\w.cell? ⟨0,k*3+1,none⟩=some (.int .i64 (rowT[k]'h).2.1)/\w.cell? ⟨0,k*3+2,none⟩=some (.int .i64 (rowT[k]'h).2.2)
theorem RowsAt.below {w w':World} (h:RowsAt w) (hb:Below w.heap.size w w'):RowsAt w':=
 ⟨zzW h.1 hb.size,fun k hk=>by
  obtain⟨a,b,c⟩:=h.2 k hk;exact⟨(hb.cell (p:=⟨0,k*3,none⟩) h.1).trans a,(hb.cell (p:=⟨0,k*3+1,none⟩) h.1).trans b,(hb.cell (p:=⟨0,k*3+2,none⟩) h.1).trans c⟩⟩
theorem zbn {fn:Func} {p u:Tmp} {ty:TypeId} (h:fn.results=#[.cell p ty,.tmp u]) (tmps:Array Value) (P:Program) (w:World) (g:Nat) (t:TypeId) (cs:Array Value) (fr:Nat × Nat) (fs:Array Field)
  (hp:tmps.getD p undef= .pointer (some ⟨g,0,none⟩)) (hg:w.heap[g]?=some (.cells cs t fr))
  (hu:P.underlying ty=some (.struct fs)) (hi:(P.info? ty).map (·.size)=some cs.size):
  (results fn tmps).run P w= .ok (.tuple #[.agg cs,tmps.getD u undef]) w:=by
 have hl:=run_loadVar_row w g t ty cs fr (.struct fs) hg hu rfl hi;rw [results_cell_tmp h,hp];simp [asAddr,hl,Result.andThen]
theorem zmV (k:Nat) (h1:1<=k) (h2:k<41) (w:World) (hr:RowsAt w):
  Calls Tryz.prog 23 #[.int .i64 k] w fun e w'=>e= .returned (.tuple #[.agg #[.int .i64 (rowT[k]'h2).1,.int .i64 (rowT[k]'h2).2.1,.int .i64 (rowT[k]'h2).2.2],.bool true])/\Below w.heap.size w w':=by
 obtain⟨c0,c1,c2⟩:=hr.2 k h2;have hlt:=hr.1;generalize rowT[k]'h2=x at *;obtain⟨x0,x1,x2⟩:=x;simp only at c0 c1 c2;go_in;go_wp2;refine zzj (zbn rfl _ _ _ w.heap.size _ _ _ _ rfl (zzF _ _) Tryz.underlying74 (by kernel_rfl)) rfl ?_;exact⟨rfl,zzE _ _⟩
theorem zoY (op:Int) (h: ¬(1<=op/\op<=40)) (w:World):
  Calls Tryz.prog 23 #[.int .i64 op] w fun e w'=>e= .returned (.tuple #[.agg #[.int .i64 0,.int .i64 0,.int .i64 0],.bool false])/\Below w.heap.size w w':=by
 by_cases h1:op<1
 ·exact zz7
 ·have h2:40<op:=by omega
  exact zz7
def zx (h f:Nat):Bool:=decide (h&&&f≠0)
theorem zkC (a b:Nat) (ha:a<9223372036854775808) (hb:b<9223372036854775808):bits .and .i64 (a:Int) (b:Int)=((a&&&b:Nat):Int):=by
 have hx:a&&&b<2^63:=Nat.and_lt_two_pow _ (by omega)
 have h1:(BitVec.ofInt 64 (a:Int)).toNat=a:=by
  rw [BitVec.ofInt_natCast,BitVec.toNat_ofNat];exact Nat.mod_eq_of_lt (by omega)
 have h2:(BitVec.ofInt 64 (b:Int)).toNat=b:=by
  rw [BitVec.ofInt_natCast,BitVec.toNat_ofNat];exact Nat.mod_eq_of_lt (by omega)
 show IntKind.i64.wrap ((BitVec.ofInt 64 (a:Int)&&&BitVec.ofInt 64 (b:Int)).toNat:Int)=_;rw [BitVec.toNat_and,h1,h2,zzq2];omega
theorem zeo (h f:Nat) (z:Int) (hz:z=f) (C:Nat) (w:World) (hc:w.cell? ⟨C,0,none⟩=some (.int .i64 h)) (h1:h<1000) (h2:f<1000):
  Calls Tryz.prog 48 #[.int .i64 z,.pointer (some ⟨C,0,none⟩)] w fun e w'=>e= .returned (.bool (zx h f))/\w=w':=by
 subst hz;have ha:=zkC h f (by omega) (by omega)
 have E:Hid ((((h&&&f:Nat):Int)!=0)=zx h f):=zzH (by
  unfold zx;by_cases c:h&&&f=0
  ·rw [c];rfl
  ·rw [decide_eq_true c];rw [bne_iff_ne];omega)
 generalize h&&&f=x at *;go_in;go_wp2;go_ret;exact⟨zl E.out,rfl⟩
def zba (i b:Nat):Bool:=decide (97<=b/\b<=122\/0<i/\(65<=b/\b<=90\/48<=b/\b<=57\/b=95\/b=64))
def zy (s:ByteArray):Bool:=decide (0<s.size)&&decide (s.size<=32)&&decide (∀i,(h:i<s.size)->zba i s[i].toNat=true)
theorem zfT {s:ByteArray} {i:Nat} (h:i<s.size) (e:zba i s[i].toNat=false):zy s=false:=by
 unfold zy
 have:decide (∀i,(h:i<s.size)->zba i s[i].toNat=true)=false:=by
  apply zzD;intro hh;have:=hh i h;rw [e]at this;simp at this
 rw [this,Bool.and_false]
theorem zhp {s:ByteArray} (h0:0<s.size) (h1:s.size<=32) (h: ∀i,(h:i<s.size)->zba i s[i].toNat=true):zy s=true:=by
 unfold zy;rw [decide_eq_true h0,decide_eq_true h1,decide_eq_true h];rfl
theorem zhU {i b:Nat} (h:123<=b):zba i b=false:=by unfold zba;apply zzD;omega
theorem ze2 {s:ByteArray} (h: ¬(0<s.size/\s.size<=32)):zy s=false:=by
 unfold zy;by_cases h0:0<s.size
 ·rw [decide_eq_false (p:=s.size<=32) (by omega),Bool.and_false,Bool.false_and]
 ·rw [decide_eq_false h0,Bool.false_and,Bool.false_and]
theorem zpY (s:ByteArray) (pos:Nat) (hp:pos<s.size):zba pos (Utf8.decode s pos).1=zba pos s[pos].toNat/\(zba pos s[pos].toNat=true->(Utf8.decode s pos).2=1):=by
 by_cases ha:s[pos].toNat<128
 ·rw [decode_ascii s pos hp ha];exact⟨rfl,fun _=>rfl⟩
 ·have h:=(decode_high s pos hp (by omega)).1
  rw [zhU (by omega),zhU (by omega)];exact⟨rfl,fun e=>by simp at e⟩
theorem zdy (w:World) (s:ByteArray) (pos:Nat):Below w.heap.size w (w.iter s pos):=zzE _ _
theorem zdR (s:ByteArray) (w:World):Calls Tryz.prog 45 #[.string s] w fun e w'=>e= .returned (.bool (zy s))/\Below w.heap.size w w':=by
 have HL:Hid (¬(0<s.size/\s.size<=32)->zy s=false):=zzH ze2;by_cases hs0:s.size=0
 ·have he:s=ByteArray.empty:=by
   have h:s.data.size=0:=hs0;exact ByteArray.ext (Array.eq_empty_of_size_eq_zero h)
  subst he;have HV:Hid (zy ByteArray.empty=false):=zzH (ze2 (by simp));clear HL;go_in;go_wp2;go_ret;exact⟨zl HV.out.symm,zzR _ _⟩
 ·have hne: ¬s.toList= []:=by
   rw [zzq19];intro e;have h2:=congrArg List.length e;exact hs0 (by simpa using h2)
  have hne2:s.toList.isEmpty=false:=by cases h:s.toList with|nil=>exact absurd h hne|cons _ _=>rfl
  by_cases hs1:32<s.size
  ·have HV:Hid (zy s=false):=zzH (ze2 (by omega))
   have g1:decide ((32:Int)<(s.size:Int))=true:=by simp;omega
   clear HL;go_in;go_wp2;go_ret;exact⟨zl HV.out.symm,zzR _ _⟩
  ·have g1:decide ((32:Int)<(s.size:Int))=false:=by simp;omega
   clear HL;go_in;go_wp2_with fail;go_loopw [] (fun wr=> ∃pos:Nat,pos<=s.size/\wr=w.iter s pos/\Hid (∀i,(h:i<s.size)->i<pos->zba i s[i].toNat=true)) (fun wr=>s.size-wr.iterPos w.heap.size)
   case atStart=>exact⟨0,zzZ _,rfl,zzH (fun i _ h=>absurd h (zzC _))⟩
   case round=>
    obtain⟨pos,hpl,rfl,HG⟩:=hrel;by_cases hp:pos<s.size
    ·have hnx: ∀ty,(Instr.next (.pointer (some ⟨w.heap.size,0,none⟩)) true ty).run Tryz.prog (w.iter s pos)=_:=fun ty=>run_next_any w s pos ty hp
     have HR:=zzH (zpY s pos hp);have HB:Hid (zba pos s[pos].toNat=false->zy s=false):=zzH (zfT hp)
     have HK:Hid (zba pos s[pos].toNat=true->(∀i,(h:i<s.size)->i<pos+1->zba i s[i].toNat=true)):=zzH (fun e i h h1=>by
      rcases Nat.lt_or_ge i pos with h2|h2
      ·exact HG.out i h h2
      ·obtain rfl:i=pos:=by omega
       exact e)
     generalize(Utf8.decode s pos).1=c at *;generalize(Utf8.decode s pos).2=d at *;by_cases r8:97<=c/\c<=122
     ·have hc:97<=c/\c<=122:=by omega
      have q0:decide ((97:Int)<=(c:Int))=true:=by simp;omega
      have q1:decide ((c:Int)<=122)=true:=by simp;omega
      have q2:decide ((65:Int)<=(c:Int))=true:=by simp;omega
      have q3:decide ((c:Int)<=90)=false:=by simp;omega
      have q4:decide ((48:Int)<=(c:Int))=true:=by simp;omega
      have q5:decide ((c:Int)<=57)=false:=by simp;omega
      have q6:((c:Int)==95)=false:=by simp;omega
      have q7:((c:Int)==64)=false:=by simp;omega
      have hok:Hid (zba pos c=true):=zzH (by unfold zba;apply zzT;omega);have hok2:Hid (zba pos s[pos].toNat=true):=zzH (by rw [<-HR.out.1];exact hok.out);obtain rfl:=HR.out.2 hok2.out;have HG2:=zzH (HK.out hok2.out);clear HG HK HB HR hok hok2;go_wp2_with fail;go_roundw
      case rel=>exact⟨_,by omega,rfl,HG2⟩
      case measure=>simp;omega
     ·by_cases hz:pos=0
      ·obtain rfl:=hz
       by_cases r10:c<=47
       ·have hc:0<=c/\c<=47:=by omega
        have q0:decide ((97:Int)<=(c:Int))=false:=by simp;omega
        have q1:decide ((c:Int)<=122)=true:=by simp;omega
        have q2:decide ((65:Int)<=(c:Int))=false:=by simp;omega
        have q3:decide ((c:Int)<=90)=true:=by simp;omega
        have q4:decide ((48:Int)<=(c:Int))=false:=by simp;omega
        exact zz14
       ·by_cases r11:c<=57
        ·have hc:48<=c/\c<=57:=by omega
         have q0:decide ((97:Int)<=(c:Int))=false:=by simp;omega
         have q1:decide ((c:Int)<=122)=true:=by simp;omega
         have q2:decide ((65:Int)<=(c:Int))=false:=by simp;omega
         have q3:decide ((c:Int)<=90)=true:=by simp;omega
         have q4:decide ((48:Int)<=(c:Int))=true:=by simp;omega
         exact zz14
        ·by_cases r12:c<=63
         ·have hc:58<=c/\c<=63:=by omega
          have q0:decide ((97:Int)<=(c:Int))=false:=by simp;omega
          have q1:decide ((c:Int)<=122)=true:=by simp;omega
          have q2:decide ((65:Int)<=(c:Int))=false:=by simp;omega
          exact zz12
         ·by_cases r13:c<=64
          ·have hc:64<=c/\c<=64:=by omega
           obtain rfl:c=64:=by omega
           have hok:Hid (zba 0 64=false):=zzH (by unfold zba;apply zzD;omega);exact zz15
          ·by_cases r14:c<=90
           ·have hc:65<=c/\c<=90:=by omega
            have q0:decide ((97:Int)<=(c:Int))=false:=by simp;omega
            have q1:decide ((c:Int)<=122)=true:=by simp;omega
            have q2:decide ((65:Int)<=(c:Int))=true:=by simp;omega
            exact zz12
           ·by_cases r15:c<=94
            ·have hc:91<=c/\c<=94:=by omega
             have q0:decide ((97:Int)<=(c:Int))=false:=by simp;omega
             have q1:decide ((c:Int)<=122)=true:=by simp;omega
             exact zz11
            ·by_cases r16:c<=95
             ·have hc:95<=c/\c<=95:=by omega
              obtain rfl:c=95:=by omega
              have hok:Hid (zba 0 95=false):=zzH (by unfold zba;apply zzD;omega);exact zz15
             ·by_cases r17:c<=96
              ·have hc:96<=c/\c<=96:=by omega
               obtain rfl:c=96:=by omega
               have hok:Hid (zba 0 96=false):=zzH (by unfold zba;apply zzD;omega);exact zz15
              ·have hc:123<=c:=by omega
               have q0:decide ((97:Int)<=(c:Int))=true:=by simp;omega
               have q1:decide ((c:Int)<=122)=false:=by simp;omega
               exact zz11
      ·by_cases r10:c<=47
       ·have hc:0<=c/\c<=47:=by omega
        have q0:decide ((97:Int)<=(c:Int))=false:=by simp;omega
        have q1:decide ((c:Int)<=122)=true:=by simp;omega
        have q2:decide ((65:Int)<=(c:Int))=false:=by simp;omega
        have q3:decide ((c:Int)<=90)=true:=by simp;omega
        have q4:decide ((48:Int)<=(c:Int))=false:=by simp;omega
        have q5:decide ((c:Int)<=57)=true:=by simp;omega
        exact zz197
       ·by_cases r11:c<=57
        ·have hc:48<=c/\c<=57:=by omega
         have q0:decide ((97:Int)<=(c:Int))=false:=by simp;omega
         have q1:decide ((c:Int)<=122)=true:=by simp;omega
         have q2:decide ((65:Int)<=(c:Int))=false:=by simp;omega
         have q3:decide ((c:Int)<=90)=true:=by simp;omega
         have q4:decide ((48:Int)<=(c:Int))=true:=by simp;omega
         have q5:decide ((c:Int)<=57)=true:=by simp;omega
         exact zz13
        ·by_cases r12:c<=63
         ·have hc:58<=c/\c<=63:=by omega
          have q0:decide ((97:Int)<=(c:Int))=false:=by simp;omega
          have q1:decide ((c:Int)<=122)=true:=by simp;omega
          have q2:decide ((65:Int)<=(c:Int))=false:=by simp;omega
          have q3:decide ((c:Int)<=90)=true:=by simp;omega
          have q4:decide ((48:Int)<=(c:Int))=true:=by simp;omega
          have q5:decide ((c:Int)<=57)=false:=by simp;omega
          exact zz197
         ·by_cases r13:c<=64
          ·have hc:64<=c/\c<=64:=by omega
           obtain rfl:c=64:=by omega
           have q9:decide ((0:Int)<(pos:Int))=true:=by simp;omega
           have hok:Hid (zba pos 64=true):=zzH (by unfold zba;apply zzT;omega);exact zz16
          ·by_cases r14:c<=90
           ·have hc:65<=c/\c<=90:=by omega
            have q0:decide ((97:Int)<=(c:Int))=false:=by simp;omega
            have q1:decide ((c:Int)<=122)=true:=by simp;omega
            have q2:decide ((65:Int)<=(c:Int))=true:=by simp;omega
            have q3:decide ((c:Int)<=90)=true:=by simp;omega
            have q4:decide ((48:Int)<=(c:Int))=true:=by simp;omega
            have q5:decide ((c:Int)<=57)=false:=by simp;omega
            exact zz13
           ·by_cases r15:c<=94
            ·have hc:91<=c/\c<=94:=by omega
             have q0:decide ((97:Int)<=(c:Int))=false:=by simp;omega
             have q1:decide ((c:Int)<=122)=true:=by simp;omega
             exact zz10
            ·by_cases r16:c<=95
             ·have hc:95<=c/\c<=95:=by omega
              obtain rfl:c=95:=by omega
              have q9:decide ((0:Int)<(pos:Int))=true:=by simp;omega
              have hok:Hid (zba pos 95=true):=zzH (by unfold zba;apply zzT;omega);exact zz16
             ·by_cases r17:c<=96
              ·have hc:96<=c/\c<=96:=by omega
               obtain rfl:c=96:=by omega
               have q9:decide ((0:Int)<(pos:Int))=true:=by simp;omega
               have hok:Hid (zba pos 96=false):=zzH (by unfold zba;apply zzD;omega);have hok2:Hid (zba pos s[pos].toNat=false):=zzH (by rw [<-HR.out.1];exact hok.out);have HV:Hid (zy s=false):=zzH (HB.out hok2.out);clear HG HK HB HR hok hok2;exact zz202
              ·have hc:123<=c:=by omega
               have q0:decide ((97:Int)<=(c:Int))=true:=by simp;omega
               have q1:decide ((c:Int)<=122)=false:=by simp;omega
               exact zz10
    ·have hnx: ∀ty,(Instr.next (.pointer (some ⟨w.heap.size,0,none⟩)) true ty).run Tryz.prog (w.iter s pos)=_:=fun ty=>run_next_end w s pos ty hp
     have HV:Hid (zy s=true):=zzH (zhp (by omega) (by omega) (fun i h=>HG.out i h (by omega)));clear HG;exact zz202
def zI (n:Int):Bool:=decide (n=0)
def zS (s:ByteArray):Bool:=decide (s.size=0)
def zL (l:List Tm):Bool:=decide (l.length=0)
def zfF (l:List Tm):Int:=match l.getLast? with
 |some t=>t.kind
 |none=>0
def zeV (s:ByteArray):Nat:=(s.data.toList.getLast?.getD 0).toNat
def zcz (y:ByteArray) (z:Int):Bool:=(wi z 0 16384&&decide ((y.size:Int)=(z+7)/8))&&(decide (z%8=0)||decide (zeV y%2^(8-z%8).toNat=0))
def zfN (t:Tm):Bool:=zcz t.bytes t.bits
def okK (t:Tm):Bool:=
 if t.kind=1 then true
 else if t.kind=2 then zy t.name
 else if t.kind=3\/t.kind=6 then wi t.int 1 2147483647&&wi t.gen 1 2147483647&&zy t.name
 else if t.kind=4 then wi t.int 0 999&&wi t.gen 1 2147483647&&zy t.name&&wi t.arity 0 16&&decide (t.items.length<=200)
 else if t.kind=5 then zy t.name&&zy t.func&&wi t.arity 0 16
 else if t.kind=7 then decide (t.items.length<=255)
 else if t.kind=8 then true
 else if t.kind=9 then decide (2<=t.items.length)&&decide (zfF t.items≠9)
 else if t.kind=10 then zfN t
 else false
def ze6 (t:Tm):Bool:=
 (decide (t.kind=1\/t.kind=3\/t.kind=4\/t.kind=6)||zI t.int) &&
 (decide (t.kind=3\/t.kind=4\/t.kind=6)||zI t.gen) &&
 (decide (t.kind=2\/t.kind=3\/t.kind=4\/t.kind=5\/t.kind=6)||zS t.name) &&
 (decide (t.kind=5)||zS t.func) &&
 (decide (t.kind=4\/t.kind=5)||zI t.arity) &&
 (decide (t.kind=4\/t.kind=7\/t.kind=9)||zL t.items) &&
 (decide (t.kind=10)||zS t.bytes) &&
 (decide (t.kind=10)||zI t.bits)
def zc0 (t:Tm):Bool:=okK t&&ze6 t
def zh:Nat->Tm->Bool
 |0,_=>false
 |f+1,t=>zc0 t&&t.items.all (zh f)
def zbe (t:Tm):Int:=if t.kind=9 then(t.items.length:Int)-1 else if t.kind=10 then 1+(t.bits+63)/64 else 1
def zbz:List Int->Int
 |[]=>0
 |x::l=>x+zbz l
def zr:Nat->Tm->Int
 |0,_=>0
 |f+1,t=>zbe t+zbz (t.items.map (zr f))
def zM (f:Nat) (t:Tm):Bool:=zh f t&&decide (zr f t<=2000)
theorem zdh (n a b:Int) (w:World):
  Calls Tryz.prog 171 #[.int .i64 n,.int .i64 a,.int .i64 b] w fun e w'=>e= .returned (.bool (wi n a b))/\w=w':=by
 by_cases h1:a<=n
 ·exact zz3
 ·exact zz4
def zbH:Array Value:=#[.int .i64 0,.int .i64 0,.int .i64 0,.string ⟨#[]⟩,.string ⟨#[]⟩,.int .i64 0,.slice none 0 0,.string ⟨#[]⟩,.int .i64 0]
theorem zfy (w:World) (o p:Obj):((w.alloc o).alloc p).heap[w.heap.size]?=some o:=by
 rw [Below.heap_alloc (w.alloc o) p w.heap.size (by simp)];exact zzF _ _
theorem zeP (w:World) (o p:Obj):((w.alloc o).alloc p).heap[w.heap.size+1]?=some p:=by
 have:=zzF (w.alloc o) p
 rwa [show(w.alloc o).heap.size=w.heap.size+1 by simp]at this
theorem zZ (w:World) (o p:Obj):Below w.heap.size w ((w.alloc o).alloc p):=(zzE _ _).alloc (by simp) _
theorem zv {w:World} {B:Nat} {v0 v1 v2 v3 v4 v5 v6 v7 v8:Value} (h:w.heap[B]?=some (.cells #[v0,v1,v2,v3,v4,v5,v6,v7,v8] 110 (0,0))):
  w.cell? ⟨B,0,none⟩=some v0/\w.cell? ⟨B,1,none⟩=some v1/\w.cell? ⟨B,2,none⟩=some v2/\w.cell? ⟨B,3,none⟩=some v3/\w.cell? ⟨B,4,none⟩=some v4/\w.cell? ⟨B,5,none⟩=some v5/\w.cell? ⟨B,6,none⟩=some v6/\w.cell? ⟨B,7,none⟩=some v7/\w.cell? ⟨B,8,none⟩=some v8 /\
   (w.frozen? ⟨B,0,none⟩=false/\w.frozen? ⟨B,1,none⟩=false/\w.frozen? ⟨B,2,none⟩=false/\w.frozen? ⟨B,3,none⟩=false/\w.frozen? ⟨B,4,none⟩=false/\w.frozen? ⟨B,5,none⟩=false/\w.frozen? ⟨B,6,none⟩=false/\w.frozen? ⟨B,7,none⟩=false/\w.frozen? ⟨B,8,none⟩=false):=by
 have hc:=fun j=>zzq0 w B j _ _ _ h
 have hf:=fun j=>zzq5 w B j _ _ h
 exact⟨hc 0,hc 1,hc 2,hc 3,hc 4,hc 5,hc 6,hc 7,hc 8,hf 0,hf 1,hf 2,hf 3,hf 4,hf 5,hf 6,hf 7,hf 8⟩
theorem zfP {w:World} {B:Nat} (v0 v1 v2 v3 v4 v5 v6 v7 v8:Value) (h:w.heap[B]?=some (.cells zbH 110 (0,0))):
  (((((((((w.setCell ⟨B,0,none⟩ v0).setCell ⟨B,1,none⟩ v1).setCell ⟨B,2,none⟩ v2).setCell ⟨B,3,none⟩ v3).setCell ⟨B,4,none⟩ v4).setCell ⟨B,5,none⟩ v5).setCell ⟨B,6,none⟩ v6).setCell ⟨B,7,none⟩ v7).setCell ⟨B,8,none⟩ v8).heap[B]?=some (.cells #[v0,v1,v2,v3,v4,v5,v6,v7,v8] 110 (0,0)):=by
 have h0:(w.setCell ⟨B,0,none⟩ v0).heap[B]?=some (.cells #[v0,.int .i64 0,.int .i64 0,.string ⟨#[]⟩,.string ⟨#[]⟩,.int .i64 0,.slice none 0 0,.string ⟨#[]⟩,.int .i64 0] 110 (0,0)):=zzS _ _ 0 _ _ v0 h
 have h1:((w.setCell ⟨B,0,none⟩ v0).setCell ⟨B,1,none⟩ v1).heap[B]?=some (.cells #[v0,v1,.int .i64 0,.string ⟨#[]⟩,.string ⟨#[]⟩,.int .i64 0,.slice none 0 0,.string ⟨#[]⟩,.int .i64 0] 110 (0,0)):=zzS _ _ 1 _ _ v1 h0
 have h2:(((w.setCell ⟨B,0,none⟩ v0).setCell ⟨B,1,none⟩ v1).setCell ⟨B,2,none⟩ v2).heap[B]?=some (.cells #[v0,v1,v2,.string ⟨#[]⟩,.string ⟨#[]⟩,.int .i64 0,.slice none 0 0,.string ⟨#[]⟩,.int .i64 0] 110 (0,0)):=zzS _ _ 2 _ _ v2 h1
 have h3:((((w.setCell ⟨B,0,none⟩ v0).setCell ⟨B,1,none⟩ v1).setCell ⟨B,2,none⟩ v2).setCell ⟨B,3,none⟩ v3).heap[B]?=some (.cells #[v0,v1,v2,v3,.string ⟨#[]⟩,.int .i64 0,.slice none 0 0,.string ⟨#[]⟩,.int .i64 0] 110 (0,0)):=zzS _ _ 3 _ _ v3 h2
 have h4:(((((w.setCell ⟨B,0,none⟩ v0).setCell ⟨B,1,none⟩ v1).setCell ⟨B,2,none⟩ v2).setCell ⟨B,3,none⟩ v3).setCell ⟨B,4,none⟩ v4).heap[B]?=some (.cells #[v0,v1,v2,v3,v4,.int .i64 0,.slice none 0 0,.string ⟨#[]⟩,.int .i64 0] 110 (0,0)):=zzS _ _ 4 _ _ v4 h3
 have h5:((((((w.setCell ⟨B,0,none⟩ v0).setCell ⟨B,1,none⟩ v1).setCell ⟨B,2,none⟩ v2).setCell ⟨B,3,none⟩ v3).setCell ⟨B,4,none⟩ v4).setCell ⟨B,5,none⟩ v5).heap[B]?=some (.cells #[v0,v1,v2,v3,v4,v5,.slice none 0 0,.string ⟨#[]⟩,.int .i64 0] 110 (0,0)):=zzS _ _ 5 _ _ v5 h4
 have h6:(((((((w.setCell ⟨B,0,none⟩ v0).setCell ⟨B,1,none⟩ v1).setCell ⟨B,2,none⟩ v2).setCell ⟨B,3,none⟩ v3).setCell ⟨B,4,none⟩ v4).setCell ⟨B,5,none⟩ v5).setCell ⟨B,6,none⟩ v6).heap[B]?=some (.cells #[v0,v1,v2,v3,v4,v5,v6,.string ⟨#[]⟩,.int .i64 0] 110 (0,0)):=zzS _ _ 6 _ _ v6 h5
 have h7:((((((((w.setCell ⟨B,0,none⟩ v0).setCell ⟨B,1,none⟩ v1).setCell ⟨B,2,none⟩ v2).setCell ⟨B,3,none⟩ v3).setCell ⟨B,4,none⟩ v4).setCell ⟨B,5,none⟩ v5).setCell ⟨B,6,none⟩ v6).setCell ⟨B,7,none⟩ v7).heap[B]?=some (.cells #[v0,v1,v2,v3,v4,v5,v6,v7,.int .i64 0] 110 (0,0)):=zzS _ _ 7 _ _ v7 h6
 have h8:(((((((((w.setCell ⟨B,0,none⟩ v0).setCell ⟨B,1,none⟩ v1).setCell ⟨B,2,none⟩ v2).setCell ⟨B,3,none⟩ v3).setCell ⟨B,4,none⟩ v4).setCell ⟨B,5,none⟩ v5).setCell ⟨B,6,none⟩ v6).setCell ⟨B,7,none⟩ v7).setCell ⟨B,8,none⟩ v8).heap[B]?=some (.cells #[v0,v1,v2,v3,v4,v5,v6,v7,v8] 110 (0,0)):=zzS _ _ 8 _ _ v8 h7
 exact h8
theorem zej {w0 w:World} {B C:Nat} (hBC:B<=C) (h:Below B w0 w) (v0 v1 v2 v3 v4 v5 v6 v7 v8:Value):
  Below B w0 (((((((((w.setCell ⟨C,0,none⟩ v0).setCell ⟨C,1,none⟩ v1).setCell ⟨C,2,none⟩ v2).setCell ⟨C,3,none⟩ v3).setCell ⟨C,4,none⟩ v4).setCell ⟨C,5,none⟩ v5).setCell ⟨C,6,none⟩ v6).setCell ⟨C,7,none⟩ v7).setCell ⟨C,8,none⟩ v8):=
 ((((((((h.setCell hBC _).setCell hBC _).setCell hBC _).setCell hBC _).setCell hBC _).setCell hBC _).setCell hBC _).setCell hBC _).setCell hBC _
section
variable (k i g:Int) (n f:ByteArray) (a:Int) (so:Option Addr) (l c:Nat) (y:ByteArray) (z:Int) (w:World)
theorem zma:Calls Tryz.prog 172 #[.agg #[.int .i64 k,.int .i64 i,.int .i64 g,.string n,.string f,.int .i64 a,.slice so l c,.string y,.int .i64 z]] w fun e w'=>
  e= .returned (.tuple #[.agg #[.int .i64 k,.int .i64 i,.int .i64 g,.string n,.string f,.int .i64 a,.slice so l c,.string y,.int .i64 z],.bool (false)])/\Below w.heap.size w w':=by
 go_in;go_wp2_with fail;exact zzj (v:=.tuple #[.agg #[.int .i64 k,.int .i64 i,.int .i64 g,.string n,.string f,.int .i64 a,.slice so l c,.string y,.int .i64 z],.bool (false)]) (by simp [results,Tryz.results172,go_sem]) rfl ⟨rfl,zZ _ _ _⟩
theorem zoi:Calls Tryz.prog 173 #[.agg #[.int .i64 k,.int .i64 i,.int .i64 g,.string n,.string f,.int .i64 a,.slice so l c,.string y,.int .i64 z]] w fun e w'=>
  e= .returned (.tuple #[.agg #[.int .i64 k,.int .i64 0,.int .i64 g,.string n,.string f,.int .i64 a,.slice so l c,.string y,.int .i64 z],.bool (true)])/\Below w.heap.size w w':=by
 go_in;go_wp2_with fail;exact zzj (v:=.tuple #[.agg #[.int .i64 k,.int .i64 0,.int .i64 g,.string n,.string f,.int .i64 a,.slice so l c,.string y,.int .i64 z],.bool (true)]) (by simp [results,Tryz.results173,go_sem]) rfl ⟨rfl,zZ _ _ _⟩
theorem znX:Calls Tryz.prog 178 #[.agg #[.int .i64 k,.int .i64 i,.int .i64 g,.string n,.string f,.int .i64 a,.slice so l c,.string y,.int .i64 z]] w fun e w'=>
  e= .returned (.tuple #[.agg #[.int .i64 k,.int .i64 i,.int .i64 g,.string n,.string f,.int .i64 a,.slice so l c,.string y,.int .i64 z],.bool (true)])/\Below w.heap.size w w':=by
 go_in;go_wp2_with fail;exact zzj (v:=.tuple #[.agg #[.int .i64 k,.int .i64 i,.int .i64 g,.string n,.string f,.int .i64 a,.slice so l c,.string y,.int .i64 z],.bool (true)]) (by simp [results,Tryz.results178,go_sem]) rfl ⟨rfl,zZ _ _ _⟩
theorem znQ:Calls Tryz.prog 170 #[.agg #[.int .i64 k,.int .i64 i,.int .i64 g,.string n,.string f,.int .i64 a,.slice so l c,.string y,.int .i64 z]] w fun e w'=>
  e= .returned (.tuple #[.agg #[.int .i64 k,.int .i64 0,.int .i64 0,.string ⟨#[]⟩,.string f,.int .i64 a,.slice so l c,.string y,.int .i64 z],.bool (wi i 1 2147483647&&wi g 1 2147483647&&zy n)])/\Below w.heap.size w w':=by
 have h0:=fun wx=>zdh i 1 2147483647 wx
 have h1:=fun wx=>zdh g 1 2147483647 wx
 have h2:=fun wx=>zdR n wx
 generalize wi i 1 2147483647=b0 at *;generalize wi g 1 2147483647=b1 at *;generalize zy n=b2 at *
 cases b0 with
 |false=>
  exact zz17
 |true=>
  cases b1 with
  |false=>
   exact zz17
  |true=>
   go_in;go_wp2_with (go_at_call 171;first|((with_reducible refine(h0 _).mono ?_);rintro e w1 ⟨rfl,rfl⟩)|((with_reducible refine(h1 _).mono ?_);rintro e w1 ⟨rfl,rfl⟩));refine(h2 _).mono ?_;rintro e w7 ⟨rfl,hb5⟩;have r0:w7.heap[w.heap.size]?=some (.cells #[.int .i64 k,.int .i64 i,.int .i64 g,.string n,.string f,.int .i64 a,.slice so l c,.string y,.int .i64 z] 110 (0,0)):=(hb5.block _ (by simp;omega)).trans (zfy _ _ _)
   have r1:w7.heap[w.heap.size+1]?=some (.cells zbH 110 (0,0)):=(hb5.block _ (by simp)).trans (zeP _ _ _)
   have hB:Below w.heap.size w w7:=(zZ _ _ _).trans (hb5.mono (by simp;omega));clear hb5;generalize hBe:w.heap.size=B at *;have HBE:=zzH hBe;clear hBe;obtain⟨q0,q1,q2,q3,q4,q5,q6,q7,q8,z0⟩:=zv r0;go_upto_region 3 with(go_at_call 171;first|((with_reducible refine(h0 _).mono ?_);rintro e w1 ⟨rfl,rfl⟩)|((with_reducible refine(h1 _).mono ?_);rintro e w1 ⟨rfl,rfl⟩));have r0':(((w7.setCell ⟨B,1,none⟩ (.int .i64 0)).setCell ⟨B,2,none⟩ (.int .i64 0)).setCell ⟨B,3,none⟩ (.string ⟨#[]⟩)).heap[B]?=some (.cells #[.int .i64 k,.int .i64 0,.int .i64 0,.string ⟨#[]⟩,.string f,.int .i64 a,.slice so l c,.string y,.int .i64 z] 110 (0,0)):=(zzS _ _ 3 _ _ (.string ⟨#[]⟩) (zzS _ _ 2 _ _ (.int .i64 0) (zzS _ _ 1 _ _ (.int .i64 0) r0)))
   have r1':(((w7.setCell ⟨B,1,none⟩ (.int .i64 0)).setCell ⟨B,2,none⟩ (.int .i64 0)).setCell ⟨B,3,none⟩ (.string ⟨#[]⟩)).heap[B+1]?=some (.cells zbH 110 (0,0)):=((zzq6 _ _ _ _ (by simp)).trans ((zzq6 _ _ _ _ (by simp)).trans ((zzq6 _ _ _ _ (by simp)).trans r1)))
   have hB':Below B w (((w7.setCell ⟨B,1,none⟩ (.int .i64 0)).setCell ⟨B,2,none⟩ (.int .i64 0)).setCell ⟨B,3,none⟩ (.string ⟨#[]⟩)):=(((hB.setCell (zzL _) _).setCell (zzL _) _).setCell (zzL _) _);clear q0 q1 q2 q3 q4 q5 q6 q7 q8 z0 r0 r1 hB;generalize(((w7.setCell ⟨B,1,none⟩ (.int .i64 0)).setCell ⟨B,2,none⟩ (.int .i64 0)).setCell ⟨B,3,none⟩ (.string ⟨#[]⟩))=w9 at *;exact zz18
theorem zmX:Calls Tryz.prog 174 #[.agg #[.int .i64 k,.int .i64 i,.int .i64 g,.string n,.string f,.int .i64 a,.slice so l c,.string y,.int .i64 z]] w fun e w'=>
  e= .returned (.tuple #[.agg #[.int .i64 k,.int .i64 i,.int .i64 g,.string ⟨#[]⟩,.string f,.int .i64 a,.slice so l c,.string y,.int .i64 z],.bool (zy n)])/\Below w.heap.size w w':=by
 have h0:=fun wx=>zdR n wx
 generalize zy n=b0 at *;go_in;go_wp2_with fail;refine(h0 _).mono ?_;rintro e w5 ⟨rfl,hb5⟩;have r0:w5.heap[w.heap.size]?=some (.cells #[.int .i64 k,.int .i64 i,.int .i64 g,.string n,.string f,.int .i64 a,.slice so l c,.string y,.int .i64 z] 110 (0,0)):=(hb5.block _ (by simp;omega)).trans (zfy _ _ _)
 have r1:w5.heap[w.heap.size+1]?=some (.cells zbH 110 (0,0)):=(hb5.block _ (by simp)).trans (zeP _ _ _)
 have hB:Below w.heap.size w w5:=(zZ _ _ _).trans (hb5.mono (by simp;omega));clear hb5;generalize hBe:w.heap.size=B at *;have HBE:=zzH hBe;clear hBe;obtain⟨q0,q1,q2,q3,q4,q5,q6,q7,q8,z0⟩:=zv r0;go_upto_region 3 with fail;have r0':(w5.setCell ⟨B,3,none⟩ (.string ⟨#[]⟩)).heap[B]?=some (.cells #[.int .i64 k,.int .i64 i,.int .i64 g,.string ⟨#[]⟩,.string f,.int .i64 a,.slice so l c,.string y,.int .i64 z] 110 (0,0)):=(zzS _ _ 3 _ _ (.string ⟨#[]⟩) r0)
 have r1':(w5.setCell ⟨B,3,none⟩ (.string ⟨#[]⟩)).heap[B+1]?=some (.cells zbH 110 (0,0)):=((zzq6 _ _ _ _ (by simp)).trans r1)
 have hB':Below B w (w5.setCell ⟨B,3,none⟩ (.string ⟨#[]⟩)):=(hB.setCell (zzL _) _);clear q0 q1 q2 q3 q4 q5 q6 q7 q8 z0 r0 r1 hB;generalize(w5.setCell ⟨B,3,none⟩ (.string ⟨#[]⟩))=w9 at *;obtain⟨q0,q1,q2,q3,q4,q5,q6,q7,q8,z0⟩:=zv r0';obtain⟨p0,p1,p2,p3,p4,p5,p6,p7,p8,z1⟩:=zv r1';go_wp2_with fail;refine zzj (zbn rfl _ _ _ (B+1) _ _ _ _ rfl (zfP _ _ _ _ _ _ _ _ _ r1') Tryz.underlying110 (by kernel_rfl)) rfl ?_;exact⟨rfl,by rw [HBE.out];exact zej (Nat.le_succ _) hB' _ _ _ _ _ _ _ _ _⟩
theorem zjN:Calls Tryz.prog 176 #[.agg #[.int .i64 k,.int .i64 i,.int .i64 g,.string n,.string f,.int .i64 a,.slice so l c,.string y,.int .i64 z]] w fun e w'=>
  e= .returned (.tuple #[.agg #[.int .i64 k,.int .i64 i,.int .i64 g,.string ⟨#[]⟩,.string ⟨#[]⟩,.int .i64 0,.slice so l c,.string y,.int .i64 z],.bool (zy n&&zy f&&wi a 0 16)])/\Below w.heap.size w w':=by
 have h0:=fun wx=>zdR n wx
 have h1:=fun wx=>zdR f wx
 have h2:=fun wx=>zdh a 0 16 wx
 generalize zy n=b0 at *;generalize zy f=b1 at *;generalize wi a 0 16=b2 at *;go_in;go_wp2_with (go_at_call 171;first|((with_reducible refine(h2 _).mono ?_);rintro e w1 ⟨rfl,rfl⟩));refine(h0 _).mono ?_;rintro e w5 ⟨rfl,hb5⟩;have r0:w5.heap[w.heap.size]?=some (.cells #[.int .i64 k,.int .i64 i,.int .i64 g,.string n,.string f,.int .i64 a,.slice so l c,.string y,.int .i64 z] 110 (0,0)):=(hb5.block _ (by simp;omega)).trans (zfy _ _ _)
 have r1:w5.heap[w.heap.size+1]?=some (.cells zbH 110 (0,0)):=(hb5.block _ (by simp)).trans (zeP _ _ _)
 have hB:Below w.heap.size w w5:=(zZ _ _ _).trans (hb5.mono (by simp;omega));clear hb5;generalize hBe:w.heap.size=B at *;have HBE:=zzH hBe;clear hBe;obtain⟨q0,q1,q2,q3,q4,q5,q6,q7,q8,z0⟩:=zv r0
 cases b0 with
 |false=>
  go_upto_region 3 with(go_at_call 171;first|((with_reducible refine(h2 _).mono ?_);rintro e w1 ⟨rfl,rfl⟩));have r0':(((w5.setCell ⟨B,3,none⟩ (.string ⟨#[]⟩)).setCell ⟨B,4,none⟩ (.string ⟨#[]⟩)).setCell ⟨B,5,none⟩ (.int .i64 0)).heap[B]?=some (.cells #[.int .i64 k,.int .i64 i,.int .i64 g,.string ⟨#[]⟩,.string ⟨#[]⟩,.int .i64 0,.slice so l c,.string y,.int .i64 z] 110 (0,0)):=(zzS _ _ 5 _ _ (.int .i64 0) (zzS _ _ 4 _ _ (.string ⟨#[]⟩) (zzS _ _ 3 _ _ (.string ⟨#[]⟩) r0)))
  have r1':(((w5.setCell ⟨B,3,none⟩ (.string ⟨#[]⟩)).setCell ⟨B,4,none⟩ (.string ⟨#[]⟩)).setCell ⟨B,5,none⟩ (.int .i64 0)).heap[B+1]?=some (.cells zbH 110 (0,0)):=((zzq6 _ _ _ _ (by simp)).trans ((zzq6 _ _ _ _ (by simp)).trans ((zzq6 _ _ _ _ (by simp)).trans r1)))
  have hB':Below B w (((w5.setCell ⟨B,3,none⟩ (.string ⟨#[]⟩)).setCell ⟨B,4,none⟩ (.string ⟨#[]⟩)).setCell ⟨B,5,none⟩ (.int .i64 0)):=(((hB.setCell (zzL _) _).setCell (zzL _) _).setCell (zzL _) _);clear q0 q1 q2 q3 q4 q5 q6 q7 q8 z0 r0 r1 hB;generalize(((w5.setCell ⟨B,3,none⟩ (.string ⟨#[]⟩)).setCell ⟨B,4,none⟩ (.string ⟨#[]⟩)).setCell ⟨B,5,none⟩ (.int .i64 0))=w9 at *;exact zz18
 |true=>
  go_wp2_with (go_at_call 171;first|((with_reducible refine(h2 _).mono ?_);rintro e w1 ⟨rfl,rfl⟩));refine(h1 _).mono ?_;rintro e w6 ⟨rfl,hb5⟩;have r0n:=(hb5.block B (zd r0)).trans r0;have r1n:=(hb5.block (B+1) (zd r1)).trans r1;have hBn:Below B w w6:=hB.trans (hb5.mono (zzb (zd r0)));clear hb5 r0 r1 hB q0 q1 q2 q3 q4 q5 q6 q7 q8 z0;have r0:=r0n;have r1:=r1n;have hB:=hBn;clear r0n r1n hBn;obtain⟨q0,q1,q2,q3,q4,q5,q6,q7,q8,z0⟩:=zv r0
  cases b1 with
  |false=>
   exact zz19
  |true=>
   cases b2 with
   |false=>
    exact zz19
   |true=>
    exact zz19
theorem zkP:Calls Tryz.prog 177 #[.agg #[.int .i64 k,.int .i64 i,.int .i64 g,.string n,.string f,.int .i64 a,.slice so l c,.string y,.int .i64 z]] w fun e w'=>
  e= .returned (.tuple #[.agg #[.int .i64 k,.int .i64 i,.int .i64 g,.string n,.string f,.int .i64 a,.slice none 0 0,.string y,.int .i64 z],.bool (decide ((l:Int)<=255))])/\Below w.heap.size w w':=by
 cases hp:decide ((l:Int)<=255)with
 |false=>
  go_in;go_wp2_with fail;exact zzj (v:=.tuple #[.agg #[.int .i64 k,.int .i64 i,.int .i64 g,.string n,.string f,.int .i64 a,.slice none 0 0,.string y,.int .i64 z],.bool (false)]) (by simp [results,Tryz.results177,go_sem]) rfl ⟨rfl,zZ _ _ _⟩
 |true=>
  go_in;go_wp2_with fail;exact zzj (v:=.tuple #[.agg #[.int .i64 k,.int .i64 i,.int .i64 g,.string n,.string f,.int .i64 a,.slice none 0 0,.string y,.int .i64 z],.bool (true)]) (by simp [results,Tryz.results177,go_sem]) rfl ⟨rfl,zZ _ _ _⟩
theorem zjq:Calls Tryz.prog 175 #[.agg #[.int .i64 k,.int .i64 i,.int .i64 g,.string n,.string f,.int .i64 a,.slice so l c,.string y,.int .i64 z]] w fun e w'=>
  e= .returned (.tuple #[.agg #[.int .i64 k,.int .i64 0,.int .i64 0,.string ⟨#[]⟩,.string f,.int .i64 0,.slice none 0 0,.string y,.int .i64 z],.bool (wi i 0 999&&wi g 1 2147483647&&zy n&&wi a 0 16&&decide ((l:Int)<=200))])/\Below w.heap.size w w':=by
 have h0:=fun wx=>zdh i 0 999 wx
 have h1:=fun wx=>zdh g 1 2147483647 wx
 have h2:=fun wx=>zdR n wx
 have h3:=fun wx=>zdh a 0 16 wx
 generalize wi i 0 999=b0 at *;generalize wi g 1 2147483647=b1 at *;generalize zy n=b2 at *;generalize wi a 0 16=b3 at *
 cases hp:decide ((l:Int)<=200)with
 |false=>
  exact zz20
 |true=>
  exact zz20
end
theorem zn9 (b r:Nat) (hb:b<256) (hr:r<8):b*2^r%256=0↔b%2^(8-r)=0:=by
 match r,hr with
 |0,_=>simp
 |1,_=>simp;omega
 |2,_=>simp;omega
 |3,_=>simp;omega
 |4,_=>simp;omega
 |5,_=>simp;omega
 |6,_=>simp;omega
 |7,_=>simp;omega
 |r+8,h=>omega
theorem zgy {y:ByteArray} {m:Nat} (h:y.size=m+1):zeV y=(y[m]'(by omega)).toNat:=by
 unfold zeV;have hl:y.data.toList.length=m+1:=by rw [Array.length_toList];exact h
 rw [List.getLast?_eq_getElem?,hl,Nat.add_sub_cancel,zzq3 (by omega)]
 rfl
section
variable (k i g:Int) (n f:ByteArray) (a:Int) (so:Option Addr) (l c:Nat) (y:ByteArray) (z:Int) (w:World)
theorem zk6 (hl:l<2):Calls Tryz.prog 179 #[.agg #[.int .i64 k,.int .i64 i,.int .i64 g,.string n,.string f,.int .i64 a,.slice so l c,.string y,.int .i64 z]] w fun e w'=>
  e= .returned (.tuple #[.agg #[.int .i64 k,.int .i64 i,.int .i64 g,.string n,.string f,.int .i64 a,.slice none 0 0,.string y,.int .i64 z],.bool false])/\Below w.heap.size w w':=by
 have hd:decide ((2:Int)<=(l:Int))=false:=zzD (by omega);go_in;go_wp2_with fail;exact zzj (v:=.tuple #[.agg #[.int .i64 k,.int .i64 i,.int .i64 g,.string n,.string f,.int .i64 a,.slice none 0 0,.string y,.int .i64 z],.bool false]) (by simp [results,Tryz.results179,go_sem]) rfl ⟨rfl,zZ _ _ _⟩
theorem zlf (b off m:Nat) (kk:Int) (hm:m<=9223372036854775805) (hb:b<w.heap.size) (hc:w.cell? ⟨b,off+(m+1)*9,none⟩=some (.int .i64 kk)):Calls Tryz.prog 179 #[.agg #[.int .i64 k,.int .i64 i,.int .i64 g,.string n,.string f,.int .i64 a,.slice (some ⟨b,off,none⟩) (m+2) c,.string y,.int .i64 z]] w fun e w'=>
  e = .returned (.tuple #[.agg #[.int .i64 k, .int .i64 i, .int .i64 g, .string n, .string f, .int .i64 a, .slice none 0 0, .string y, .int .i64 z], .bool (kk != 9)]) /\ Below w.heap.size w w' := by
 have hd:decide ((2:Int)<=((m+2:Nat):Int))=true:=zzT (by omega);have hi:(((m+2:Nat):Int)-1).toNat=m+1:=by omega
 go_in;go_wp2_with fail;exact zzj (v := .tuple #[.agg #[.int .i64 k, .int .i64 i, .int .i64 g, .string n, .string f, .int .i64 a, .slice none 0 0, .string y, .int .i64 z], .bool (kk != 9)]) (by simp [results, Tryz.results179, go_sem]) rfl ⟨rfl, zZ _ _ _⟩
theorem zml (hy:y.size<=9223372036854775807) (hz:I64 z):Calls Tryz.prog 180 #[.agg #[.int .i64 k,.int .i64 i,.int .i64 g,.string n,.string f,.int .i64 a,.slice so l c,.string y,.int .i64 z]] w fun e w'=>
  e= .returned (.tuple #[.agg #[.int .i64 k,.int .i64 i,.int .i64 g,.string n,.string f,.int .i64 a,.slice so l c,.string ⟨#[]⟩,.int .i64 0],.bool (zcz y z)])/\Below w.heap.size w w':=by
 have h0:=fun wx=>zdh z 0 16384 wx
 by_cases hw:0<=z/\z<=16384
 ·obtain⟨z0,z1⟩:=hw
  have hwi:=zd0 z0 z1;have E0:zcz y z=(decide ((y.size:Int)=(z+7)/8)&&(decide (z%8=0)||decide (zeV y%2^(8-z%8).toNat=0))):=by unfold zcz;rw [hwi];rfl
  rw [hwi]at h0;clear hwi;by_cases hl:(y.size:Int)=(z+7)/8
  ·have hlb:((y.size:Int)==(z+7)/8)=true:=by rw [beq_iff_eq];exact hl
   by_cases hr:z%8=0
   ·have hrb:(z%8!=0)=false:=by rw [bne_eq_false_iff_eq];exact hr
    have E:=zzH (E0.trans (by rw [decide_eq_true hl,decide_eq_true hr];rfl:_=true));rw [E.out];clear E E0 hr hl hz;go_in;go_wp2_with (go_at_call 171;refine(h0 _).mono ?_;rintro e w1 ⟨rfl,rfl⟩);exact zzj (v:=.tuple #[.agg #[.int .i64 k,.int .i64 i,.int .i64 g,.string n,.string f,.int .i64 a,.slice so l c,.string ⟨#[]⟩,.int .i64 0],.bool true]) (by simp [results,Tryz.results180,go_sem]) rfl ⟨rfl,zZ _ _ _⟩
   ·have hrb:(z%8!=0)=true:=by rw [bne_iff_ne];exact hr
    obtain⟨m,hm⟩: ∃m,y.size=m+1:=⟨y.size-1,by omega⟩;have hmi:m<y.size:=by omega
    have hmy:m<=100000:=by omega
    have HM:=zzH hm;have hw1:IntKind.i64.wrap ((y.size:Int)-1)=(m:Int):=by rw [zzq2];omega
    have hrem:z.tmod 8=z%8:=by rw [Int.tmod_eq_emod_of_nonneg z0]
    have hr0:0<=z%8:=by omega
    have hr8:z%8<8:=by omega
    have EE:Hid ((((y[m].toNat:Nat):Int)*2^(z%8).toNat%256==0)=zcz y z):=zzH (by
     rw [E0,decide_eq_true hl,decide_eq_false hr,zgy hm];rw [zzq15,zzq9];have h:=zn9 y[m].toNat (z%8).toNat (UInt8.toNat_lt _) (by omega);rw [show(8-z%8).toNat=8-(z%8).toNat by omega];rw [Bool.eq_iff_iff,beq_iff_eq,zzq8,<-h];exact⟨fun h=>by exact_mod_cast h,fun h=>by exact_mod_cast h⟩)
    clear hl hz hm hr E0;go_in;go_wp2_with (go_at_call 171;refine(h0 _).mono ?_;rintro e w1 ⟨rfl,rfl⟩);go_quiet (fail);go_wp2_with fail;refine zzj (zbn rfl _ _ _ (w.heap.size+1) _ _ _ _ rfl (zfP _ _ _ _ _ _ _ _ _ ((zzq6 _ _ _ _ (by simp)).trans ((zzq6 _ _ _ _ (by simp)).trans (zeP w _ _)))) Tryz.underlying110 (by kernel_rfl)) rfl ?_;exact⟨by rw [<-EE.out];rfl,zej (Nat.le_succ _) (((zm (zZ _ _ _) _).setCell (zzL _) _).setCell (zzL _) _) _ _ _ _ _ _ _ _ _⟩
  ·have hlb:((y.size:Int)==(z+7)/8)=false:=by rw [zzq1];exact hl
   have E:=zzH (E0.trans (by rw [decide_eq_false hl];rfl:_=false));rw [E.out];clear E E0 hl hz;exact zz21
 ·have hwi:=zdx hw
  have E:Hid (zcz y z=false):=zzH (by unfold zcz;rw [hwi];rfl);rw [hwi]at h0;rw [E.out];clear E hwi hw hz;exact zz21
end
def zcr (rec:Tm->Tm->Bool):List Tm->List Tm->Bool
 |[],[]=>true
 |x::l,y::m=>rec x y&&zcr rec l m
 |_,_=>false
def ziu (a b:Tm):Bool:=(a.kind==b.kind)&&((a.int==b.int)&&((a.gen==b.gen)&&((a.name.toList==b.name.toList)&&((a.func.toList==b.func.toList)&&((a.arity==b.arity)&&((a.bytes.toList==b.bytes.toList)&&(a.bits==b.bits)))))))
def zcd:Nat->Tm->Tm->Bool
 |0,_,_=>false
 |f+1,a,b=>ziu a b&&zcr (zcd f) a.items b.items
theorem zhX {rec:Tm->Tm->Bool}: ∀{l m:List Tm},l.length≠m.length->zcr rec l m=false
 |[],[],h=>absurd rfl h
 |_::l,_::m,h=>by
  unfold zcr;rw [zhX (l:=l) (m:=m) (by simpa using h)];exact Bool.and_false _
 |[],_::_,_=>rfl
 |_::_,[],_=>rfl
theorem zlp {rec:Tm->Tm->Bool} {l m:List Tm} {k:Nat} (h:k<l.length) (h':k<m.length):zcr rec (l.drop k) (m.drop k)=(rec l[k] m[k]&&zcr rec (l.drop (k+1)) (m.drop (k+1))):=by
 rw [List.drop_eq_getElem_cons h,List.drop_eq_getElem_cons h',zcr]
theorem zmv {rec:Tm->Tm->Bool} {l m:List Tm} {k:Nat} (h:l.length<=k) (h':m.length<=k):zcr rec (l.drop k) (m.drop k)=true:=by
 rw [zzq10 h,zzq10 h',zcr]
def zg9 (f:Nat):Prop:= ∀(ao bo:Option Addr) (c d:Nat) (l m:List Tm) (w:World),SlAt w 9 (TmAt w f) ao l->SlAt w 9 (TmAt w f) bo m->l.length<=maxLen->m.length<=maxLen ->
 Calls Tryz.prog 199 #[.slice ao l.length c,.slice bo m.length d,.func (.func 181) #[] #[]] w fun e w'=>e= .returned (.bool (zcr (zcd f) l m))/\Below w.heap.size w w'
def zl0 (f:Nat):Prop:= ∀(a b:Tm) (ao bo:Option Addr) (c d:Nat) (w:World),SlAt w 9 (TmAt w f) ao a.items->SlAt w 9 (TmAt w f) bo b.items->a.items.length<=maxLen->b.items.length<=maxLen ->
 Calls Tryz.prog 181 #[.agg #[.int .i64 a.kind,.int .i64 a.int,.int .i64 a.gen,.string a.name,.string a.func,.int .i64 a.arity,.slice ao a.items.length c,.string a.bytes,.int .i64 a.bits],
   .agg #[.int .i64 b.kind,.int .i64 b.int,.int .i64 b.gen,.string b.name,.string b.func,.int .i64 b.arity,.slice bo b.items.length d,.string b.bytes,.int .i64 b.bits]] w fun e w'=>e= .returned (.bool (zcd (f+1) a b))/\Below w.heap.size w w'
theorem zkD {f:Nat} (HP:Hid (zg9 f)):zl0 f:=by
 intro a b ao bo c d w ha hb hla hlb
 have hA: ∀wx,Below w.heap.size w wx->Calls Tryz.prog 199 #[.slice ao a.items.length c,.slice bo b.items.length d,.func (.func 181) #[] #[]] wx fun e w'=>e= .returned (.bool (zcr (zcd f) a.items b.items))/\Below w.heap.size w w':=
  fun wx hx=>(HP.out ao bo c d a.items b.items wx (ha.tms hx) (hb.tms hx) hla hlb).mono fun _ _ ⟨h1,h2⟩=>⟨h1,ze hx h2⟩
 have E0:Hid (zcd (f+1) a b=(ziu a b&&zcr (zcd f) a.items b.items)):=zzH rfl;unfold ziu at E0;clear ha hb hla hlb;generalize zcr (zcd f) a.items b.items=sl at *;generalize zcd (f+1) a b=r at *;obtain⟨ak,ai,ag,an,af,aa,al,ay,az⟩:=a;obtain⟨bk,bi,bg,bn,bf,ba,bl,by',bz⟩:=b;simp only [Tm.kind,Tm.int,Tm.gen,Tm.name,Tm.func,Tm.arity,Tm.items,Tm.bytes,Tm.bits]at *;have hbe:Below w.heap.size w ((w.alloc (.cells #[.int .i64 ak,.int .i64 ai,.int .i64 ag,.string an,.string af,.int .i64 aa,.slice ao al.length c,.string ay,.int .i64 az] 110)).alloc (.cells #[.int .i64 bk,.int .i64 bi,.int .i64 bg,.string bn,.string bf,.int .i64 ba,.slice bo bl.length d,.string by',.int .i64 bz] 110)):=zZ _ _ _;have HA:=hA _ hbe;have HBE:=zzH hbe;clear hA hbe
 cases t0:(ak==bk)with
 |false=>
  simp only [t0]at E0;exact zz22
 |true=>
  simp only [t0]at E0
  cases t1:(ai==bi)with
  |false=>
   simp only [t1]at E0;exact zz22
  |true=>
   simp only [t1]at E0
   cases t2:(ag==bg)with
   |false=>
    simp only [t2]at E0;exact zz22
   |true=>
    simp only [t2]at E0
    cases t3:(an.toList==bn.toList)with
    |false=>
     simp only [t3]at E0;exact zz22
    |true=>
     simp only [t3]at E0
     cases t4:(af.toList==bf.toList)with
     |false=>
      simp only [t4]at E0;exact zz22
     |true=>
      simp only [t4]at E0
      cases t5:(aa==ba)with
      |false=>
       simp only [t5]at E0;exact zz22
      |true=>
       simp only [t5]at E0
       cases t6:(ay.toList==by'.toList)with
       |false=>
        simp only [t6]at E0;exact zz22
       |true=>
        simp only [t6]at E0
        cases t7:(az==bz)with
        |false=>
         simp only [t7]at E0;exact zz22
        |true=>
         simp only [t7]at E0;simp only [zzq15,Bool.false_and,Bool.and_true,Bool.and_false]at E0;go_in;go_wp2_with fail;refine HA.mono ?_;rintro e w5 ⟨rfl,hb5⟩;go_wp2;go_ret;exact⟨zl E0.out.symm,hb5⟩
theorem zl1:zg9 0:=by
 intro ao bo c d l m w ha hb hla hlb;obtain rfl:=ha.zero;obtain rfl:=hb.zero;go_in;go_wp2_with fail;go_loop [16] (fun i=>i= .int .i64 0) (fun _=>0)
 case atStart=>rfl
 case round=>
  obtain rfl:=hrel;go_wp2;go_ret;exact⟨rfl,zzR _ _⟩
theorem zlV {f:Nat} (HQ:Hid (zl0 f)):zg9 (f+1):=by
 intro ao bo c d l m w ha hb hla hlb;unfold maxLen at hla hlb;by_cases hlm:l.length=m.length
 ·have HA:=zzH ha;have HB:=zzH hb
  have HLM:=zzH hlm;have hlmb:((l.length:Int)!=(m.length:Int))=false:=by rw [hlm];simp
  have HS:Hid (zcr (zcd (f+1)) l m=zcr (zcd (f+1)) (l.drop 0) (m.drop 0)):=zzH rfl;clear ha hb hlm;go_in;go_wp2_with fail;go_loopw [7,8,16] (fun _ _ i wr=> ∃k:Nat,k<=l.length/\i= .int .i64 k/\Hid (zcr (zcd (f+1)) l m=zcr (zcd (f+1)) (l.drop k) (m.drop k))/\Below w.heap.size w wr) (fun _ _ i _=>l.length-(intOf i).toNat)
  case atStart=>exact⟨0,zzZ _,rfl,HS,zzR _ _⟩
  case round=>
   obtain⟨k,hk,rfl,HK,hBw⟩:=hrel;rename World=>wr
   by_cases hlt:k<l.length
   ·have hlt':k<m.length:=by have:=HLM.out;omega
    have hsa:=HA.out.tms hBw;have hsb:=HB.out.tms hBw;obtain⟨b1,off1,ai,ci,hao,hb1,q0,q1,q2,q3,q4,q5,q6,q7,q8,hit,hok⟩:=hsa.tm hlt;obtain⟨b2,off2,bi,di,hbo,hb2,p0,p1,p2,p3,p4,p5,p6,p7,p8,hit2,hok2⟩:=hsb.tm hlt';subst hao;subst hbo;have HST:=zzH (zlp (rec:=zcd (f+1)) hlt hlt');have hbx:Below wr.heap.size wr (wr.alloc (.cells (zzt l[k] ai ci) 110)):=zzE _ _;have hSM:=HQ.out l[k] m[k] ai bi ci di (wr.alloc (.cells (zzt l[k] ai ci) 110)).drew (hit.tms hbx.drew) (hit2.tms hbx.drew) hok.2.2.2.2.2.2.1 hok2.2.2.2.2.2.2.1;have HBX:=zzH (hBw.trans (hbx.mono hBw.size));have hbs:w.heap.size<=(wr.alloc (.cells (zzt l[k] ai ci) 110)).heap.size:=HBX.out.size;have hca:=zzF wr (.cells #[.int .i64 l[k].kind,.int .i64 l[k].int,.int .i64 l[k].gen,.string l[k].name,.string l[k].func,.int .i64 l[k].arity,.slice ai l[k].items.length ci,.string l[k].bytes,.int .i64 l[k].bits] 110);have hb2':b2<(wr.alloc (.cells (zzt l[k] ai ci) 110)).heap.size:=zzW hb2 hbx.size;have p0':=(hbx.cell (p:=⟨b2,off2+k*9,none⟩) hb2).trans p0;have p1':=(hbx.cell (p:=⟨b2,off2+k*9+1,none⟩) hb2).trans p1;have p2':=(hbx.cell (p:=⟨b2,off2+k*9+2,none⟩) hb2).trans p2;have p3':=(hbx.cell (p:=⟨b2,off2+k*9+3,none⟩) hb2).trans p3;have p4':=(hbx.cell (p:=⟨b2,off2+k*9+4,none⟩) hb2).trans p4;have p5':=(hbx.cell (p:=⟨b2,off2+k*9+5,none⟩) hb2).trans p5;have p6':=(hbx.cell (p:=⟨b2,off2+k*9+6,none⟩) hb2).trans p6;have p7':=(hbx.cell (p:=⟨b2,off2+k*9+7,none⟩) hb2).trans p7;have p8':=(hbx.cell (p:=⟨b2,off2+k*9+8,none⟩) hb2).trans p8;clear hit hit2 hok hok2 hsa hsb hbx;generalize l[k]=x at *;generalize m[k]=y at *
    cases hr:zcd (f+1) x y with
    |true=>
     have HK2:Hid (zcr (zcd (f+1)) l m=zcr (zcd (f+1)) (l.drop (k+1)) (m.drop (k+1))):=zzH (by rw [HK.out,HST.out,hr,zzq15]);rw [hr]at hSM;clear hr;have HBS:=zzH hbs;clear hbs;go_wp2_with fail;generalize(wr.alloc (.cells (zzt x ai ci) 110))=wa at *;generalize wr.heap.size=C at *;obtain⟨q0',q1',q2',q3',q4',q5',q6',q7',q8',z1⟩:=zv hca;have hCs:=zd hca;have HCA:=zzH hca;clear hca z1 q0 q1 q2 q3 q4 q5 q6 q7 q8 p0 p1 p2 p3 p4 p5 p6 p7 p8
     first|go_region_held3 (fun w'=>((w'.cell? ⟨C,0,none⟩=some (.int .i64 x.kind)/\w'.cell? ⟨C,1,none⟩=some (.int .i64 x.int)/\w'.cell? ⟨C,2,none⟩=some (.int .i64 x.gen)/\w'.cell? ⟨C,3,none⟩=some (.string x.name)/\w'.cell? ⟨C,4,none⟩=some (.string x.func)/\w'.cell? ⟨C,5,none⟩=some (.int .i64 x.arity)/\w'.cell? ⟨C,6,none⟩=some (.slice ai x.items.length ci)/\w'.cell? ⟨C,7,none⟩=some (.string x.bytes)/\w'.cell? ⟨C,8,none⟩=some (.int .i64 x.bits))/\(w'.cell? ⟨b2,off2+k*9,none⟩=some (.int .i64 y.kind)/\w'.cell? ⟨b2,off2+k*9+1,none⟩=some (.int .i64 y.int)/\w'.cell? ⟨b2,off2+k*9+2,none⟩=some (.int .i64 y.gen)/\w'.cell? ⟨b2,off2+k*9+3,none⟩=some (.string y.name)/\w'.cell? ⟨b2,off2+k*9+4,none⟩=some (.string y.func)/\w'.cell? ⟨b2,off2+k*9+5,none⟩=some (.int .i64 y.arity)/\w'.cell? ⟨b2,off2+k*9+6,none⟩=some (.slice bi y.items.length di)/\w'.cell? ⟨b2,off2+k*9+7,none⟩=some (.string y.bytes)/\w'.cell? ⟨b2,off2+k*9+8,none⟩=some (.int .i64 y.bits)))) (((repeat' apply zzI)<;>assumption)) ((go_at_call 181;refine hSM.mono ?_;rintro e w5 ⟨rfl,hb5⟩;obtain⟨r0,r1,r2,r3,r4,r5,r6,r7,r8,_⟩:=zv ((hb5.block C hCs).trans HCA.out);have s0:=(hb5.cell (p:=⟨b2,off2+k*9,none⟩) hb2').trans p0';have s1:=(hb5.cell (p:=⟨b2,off2+k*9+1,none⟩) hb2').trans p1';have s2:=(hb5.cell (p:=⟨b2,off2+k*9+2,none⟩) hb2').trans p2';have s3:=(hb5.cell (p:=⟨b2,off2+k*9+3,none⟩) hb2').trans p3';have s4:=(hb5.cell (p:=⟨b2,off2+k*9+4,none⟩) hb2').trans p4';have s5:=(hb5.cell (p:=⟨b2,off2+k*9+5,none⟩) hb2').trans p5';have s6:=(hb5.cell (p:=⟨b2,off2+k*9+6,none⟩) hb2').trans p6';have s7:=(hb5.cell (p:=⟨b2,off2+k*9+7,none⟩) hb2').trans p7';have s8:=(hb5.cell (p:=⟨b2,off2+k*9+8,none⟩) hb2').trans p8'))|fail
     go_wp2_with fail;go_roundw
     case rel=>exact⟨k+1,by omega,by go_num,HK2,HBX.out.drew.trans (hb5.mono HBS.out)⟩
     case measure=>simp [intOf];omega
    |false=>
     have E:Hid (zcr (zcd (f+1)) l m=false):=zzH (by rw [HK.out,HST.out,hr,Bool.false_and]);rw [hr]at hSM;clear hr;have HBS:=zzH hbs;clear hbs;go_wp2_with fail;generalize(wr.alloc (.cells (zzt x ai ci) 110))=wa at *;generalize wr.heap.size=C at *;obtain⟨q0',q1',q2',q3',q4',q5',q6',q7',q8',z1⟩:=zv hca;have hCs:=zd hca;have HCA:=zzH hca;clear hca z1 q0 q1 q2 q3 q4 q5 q6 q7 q8 p0 p1 p2 p3 p4 p5 p6 p7 p8
     first|go_region_held3 (fun w'=>((w'.cell? ⟨C,0,none⟩=some (.int .i64 x.kind)/\w'.cell? ⟨C,1,none⟩=some (.int .i64 x.int)/\w'.cell? ⟨C,2,none⟩=some (.int .i64 x.gen)/\w'.cell? ⟨C,3,none⟩=some (.string x.name)/\w'.cell? ⟨C,4,none⟩=some (.string x.func)/\w'.cell? ⟨C,5,none⟩=some (.int .i64 x.arity)/\w'.cell? ⟨C,6,none⟩=some (.slice ai x.items.length ci)/\w'.cell? ⟨C,7,none⟩=some (.string x.bytes)/\w'.cell? ⟨C,8,none⟩=some (.int .i64 x.bits))/\(w'.cell? ⟨b2,off2+k*9,none⟩=some (.int .i64 y.kind)/\w'.cell? ⟨b2,off2+k*9+1,none⟩=some (.int .i64 y.int)/\w'.cell? ⟨b2,off2+k*9+2,none⟩=some (.int .i64 y.gen)/\w'.cell? ⟨b2,off2+k*9+3,none⟩=some (.string y.name)/\w'.cell? ⟨b2,off2+k*9+4,none⟩=some (.string y.func)/\w'.cell? ⟨b2,off2+k*9+5,none⟩=some (.int .i64 y.arity)/\w'.cell? ⟨b2,off2+k*9+6,none⟩=some (.slice bi y.items.length di)/\w'.cell? ⟨b2,off2+k*9+7,none⟩=some (.string y.bytes)/\w'.cell? ⟨b2,off2+k*9+8,none⟩=some (.int .i64 y.bits)))) (((repeat' apply zzI)<;>assumption)) ((go_at_call 181;refine hSM.mono ?_;rintro e w5 ⟨rfl,hb5⟩;obtain⟨r0,r1,r2,r3,r4,r5,r6,r7,r8,_⟩:=zv ((hb5.block C hCs).trans HCA.out);have s0:=(hb5.cell (p:=⟨b2,off2+k*9,none⟩) hb2').trans p0';have s1:=(hb5.cell (p:=⟨b2,off2+k*9+1,none⟩) hb2').trans p1';have s2:=(hb5.cell (p:=⟨b2,off2+k*9+2,none⟩) hb2').trans p2';have s3:=(hb5.cell (p:=⟨b2,off2+k*9+3,none⟩) hb2').trans p3';have s4:=(hb5.cell (p:=⟨b2,off2+k*9+4,none⟩) hb2').trans p4';have s5:=(hb5.cell (p:=⟨b2,off2+k*9+5,none⟩) hb2').trans p5';have s6:=(hb5.cell (p:=⟨b2,off2+k*9+6,none⟩) hb2').trans p6';have s7:=(hb5.cell (p:=⟨b2,off2+k*9+7,none⟩) hb2').trans p7';have s8:=(hb5.cell (p:=⟨b2,off2+k*9+8,none⟩) hb2').trans p8'))|fail
     go_wp2;go_ret;exact⟨zl E.out.symm,HBX.out.drew.trans (hb5.mono HBS.out)⟩
   ·have E:Hid (zcr (zcd (f+1)) l m=true):=zzH (by rw [HK.out];exact zmv (by omega) (by have:=HLM.out;omega))
    go_wp2;go_ret;exact⟨zl E.out.symm,hBw⟩
 ·have hlmb:((l.length:Int)!=(m.length:Int))=true:=by rw [bne_iff_ne];omega
  have E:Hid (zcr (zcd (f+1)) l m=false):=zzH (zhX hlm);clear ha hb hlm;go_in;go_wp2;go_ret;exact⟨zl E.out.symm,zzR _ _⟩
theorem zhY: ∀f,zg9 f
 |0=>zl1
 |f+1=>zlV (zzH (zkD (zzH (zhY f))))
theorem zoB (f:Nat):zl0 f:=zkD (zzH (zhY f))
theorem zk9 (op:Int) (h: ¬(op=2\/op=3\/op=4\/op=14\/op=15\/op=27\/op=35\/op=36)):zbu op=wi op 16 23:=by
 unfold zbu wi;by_cases c:16<=op/\op<=23
 ·have hm:op∈([2,3,4,14,15,16,17,18,19,20,21,22,23,27,35,36]:List Int):=by simp;omega
  rw [decide_eq_true hm,decide_eq_true c.1,decide_eq_true c.2];rfl
 ·have hm:op∉([2,3,4,14,15,16,17,18,19,20,21,22,23,27,35,36]:List Int):=by simp;omega
  rw [decide_eq_false hm];by_cases c1:16<=op
  ·rw [decide_eq_true c1,decide_eq_false (fun h=>c ⟨c1,h⟩)];rfl
  ·rw [decide_eq_false c1];rfl
theorem zg4 (op:Int) (w:World):
  Calls Tryz.prog 64 #[.int .i64 op] w fun e w'=>e= .returned (.bool (zbu op))/\w=w':=by
 by_cases h:op=2\/op=3\/op=4\/op=14\/op=15\/op=27\/op=35\/op=36
 ·rcases h with rfl|rfl|rfl|rfl|rfl|rfl|rfl|rfl
  all_goals
   go_in;go_wp2;go_ret;exact⟨rfl,rfl⟩
 ·have E:=zzH (zk9 op h)
  have t1:(op==2)=false:=by rw [zzq1];omega
  have t2:(op==3)=false:=by rw [zzq1];omega
  have t3:(op==4)=false:=by rw [zzq1];omega
  have t4:(op==14)=false:=by rw [zzq1];omega
  have t5:(op==15)=false:=by rw [zzq1];omega
  have t6:(op==27)=false:=by rw [zzq1];omega
  have t7:(op==35)=false:=by rw [zzq1];omega
  have t8:(op==36)=false:=by rw [zzq1];omega
  clear h;go_in;go_wp2_with (go_at_call 47;refine(zK _ _ _ _).mono ?_;rintro e w1 ⟨rfl,rfl⟩);go_ret;exact⟨zl E.out.symm,rfl⟩
end Go.Proofs.YthajedcbgnloeaaGreatDoor
