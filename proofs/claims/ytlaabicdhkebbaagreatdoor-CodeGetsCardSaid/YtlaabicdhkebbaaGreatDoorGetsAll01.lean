/- part 1 -/
import Derived.IntWalk
import Derived.Below
import Derived.Laws.Wrap64
import Derived.WalkKit
import Derived.ChangeArms
import Derived.DataReads
import Derived.Lib.Hide
import Derived.WalkSpells
import Derived.WalkLawsBesides
import Derived.Handy
import Derived.Deep.QuietTactic
import Derived.BigQuiet
import Derived.Laws.ResultCell
import Derived.Laws.Rows
import Derived.Deep.RegionHeld3
import Derived.Deep.DeepCutAuto
import Derived.Deep.CutBlock
import Derived.Maps.OwnOps
import Derived.Maps.OwnSet
import Derived.Maps.Views
import Derived.DeepKeys4
import Derived.WideKeyPair
import Derived.Laws.RangeAny
import Derived.Laws.RangeString
import Derived.RegionTactic
import Derived.BigRegion
import Derived.Laws.EntriesVeiled
import Derived.Shelf.Strings.Builder1
import Derived.Shelf.Small.Strs
import Derived.Shelf.Small.Wraps
import Derived.Shelf.Strings.BuilderF
import Derived.Shelf.Strings.BuilderK
import Derived.Shelf.Strings.Search1
import Derived.Shelf.Strings.Search2
import Derived.Shelf.Strings.Search3
import Derived.Shelf.LaysM
import Derived.Shelf.Strings.Shaped
import Derived.Shelf.Strings.Fields
import Derived.Shelf.Unicode.Latin
import Derived.Shelf.Unicode.Is16White
import Derived.Shelf.Unicode.IsSpaceAny
import Derived.Shelf.Unicode.Is16Any
import Derived.Shelf.Unicode.Is32Any
import Derived.Shelf.Unicode.ExclAny
import Derived.Ground.Names2Prog
import Derived.Shelf.Slices.SearchI
import Derived.Lib.SmallJoins
import Derived.Laws.AppendOwn
import Derived.OwnWalk
import Derived.Maps.AppendAt
import Derived.Lib.FrozenHead
import Derived.Lib.OwnKind
import Derived.Lib.AppendStr
import Derived.Laws.NewBlocks
import Derived.RegionDies
import Derived.Lib.ConvBytes
import Derived.Laws.Bits64b
import Derived.Lib.OthersKept
import Derived.Laws.OwnMore
import Derived.Deep.AppendLies
import Derived.Defers
import Derived.Recover
import Derived.ChangeAlike
import Derived.Laws.CopyOwn
import Derived.Deep.RegionWith
import Derived.Laws.IdiomStrings
import Derived.Lib.LaidU8
import Derived.Stop.LaidErr
import Derived.Deep.DeepHandedRow
import Derived.Deep.DeepLaidRun
import Derived.Deep.DeepWitnessRowRef
import Derived.ProofKit
import Derived.OpenShut
import Derived.ShutString
import Derived.Test.YtlaabicdhkebbaaGreatDoorProg
namespace Go.Proofs.YtlaabicdhkebbaaGreatDoor
open Go.RowKit
set_option linter.unusedVariables false
set_option linter.unusedSimpArgs false
set_option maxRecDepth 100000
set_option maxHeartbeats 80000000
abbrev zzW:=@Nat.lt_of_lt_of_le
theorem zzq2:type_of% @cell_of_row:=@cell_of_row
theorem zz1{P:Prop}(h:P:=by
 go_wp2_with fail;go_round
 case rel=>exact⟨k+1,by omega,by go_num,rfl,rfl,HK2⟩
 case measure=>simp [intOf];omega):P:=h
abbrev zzR:=@Below.refl
abbrev zzH:=@Lib.hid
abbrev zzL:=@Nat.le_refl
abbrev zzZ:=@Nat.zero_le
abbrev zzB:=@beq_eq_false_iff_ne
theorem zzq10:type_of% @ByteArray.toList_eq:=@ByteArray.toList_eq
theorem zzq5:type_of% @beq_eq_false_iff_ne.{0}:=@beq_eq_false_iff_ne
theorem zzq6:type_of% @List.drop_eq_nil_of_le.{0}:=@List.drop_eq_nil_of_le
abbrev zzD:=@decide_eq_false
abbrev zzT:=@decide_eq_true
theorem zz2{P:Prop}(h:P:=by
 by_cases h2:n<=b
 ·have E:=zzH (zeq h1 h2)
  have d1:decide (a<=n)=true:=zzT h1;have d2:decide (n<=b)=true:=zzT h2;go_in;go_wp2;go_ret;exact⟨zr E.out.symm,rfl⟩
 ·have E:=zzH (zdN (n:=n) (a:=a) (b:=b) (fun h=>h2 h.2))
  have d1:decide (a<=n)=true:=zzT h1;have d2:decide (n<=b)=false:=zzD h2;go_in;go_wp2;go_ret;exact⟨zr E.out.symm,rfl⟩):P:=h
theorem zz3{P:Prop}(h:P:=by
 have E:=zzH (zdN (n:=n) (a:=a) (b:=b) (fun h=>h1 h.1));have d1:decide (a<=n)=false:=zzD h1;go_in;go_wp2;go_ret;exact⟨zr E.out.symm,rfl⟩):P:=h
theorem zz4{P:Prop}(h:P:=by
 go_in;go_wp2_with (go_at_call 64;refine(zX _ _ _ _).mono ?_;rintro e w1 ⟨rfl,rfl⟩);go_ret;exact⟨zr E.out.symm,hbe⟩):P:=h
theorem zz5{P:Prop}(h:P:=by
 go_wp2_with fail;go_ret;exact⟨zr E.out.symm,hbe⟩):P:=h
theorem zzq3:type_of% @IntKind.wrap_i64:=@IntKind.wrap_i64
theorem zz6{P:Prop}(h:P:=by
 go_in;go_wp2;refine bodyPost_ret (zbb rfl _ _ _ w.heap.size _ _ _ _ rfl (heap_alloc_new _ _) Tryz.underlying87 (by kernel_rfl)) rfl ?_;exact⟨rfl,(zzR _ _).alloc (zzL _) _⟩):P:=h
theorem zz7{P:Prop}(h:P:=by
 rw [BitVec.ofInt_natCast,BitVec.toNat_ofNat];exact Nat.mod_eq_of_lt (by omega)):P:=h
theorem zzc3{w:World}{B:Nat}{v0 v1 v2:Value}{l:List Value}{T:Nat}{o:Nat×Nat}(h:w.heap[B]?=some (.cells (v0::v1::v2::l).toArray T o)):w.cell? ⟨B,0,none⟩=some v0/\w.cell? ⟨B,1,none⟩=some v1/\w.cell? ⟨B,2,none⟩=some v2:=⟨zzq2 w B 0 _ _ _ h,zzq2 w B 1 _ _ _ h,zzq2 w B 2 _ _ _ h⟩
theorem zz8{P:Prop}(h:P:=by
 go_wp2_with fail;go_meet
 case rel=>exact⟨_,rfl,zzH (by rw [hq4];first|rfl|(simp;done)|(simp [bne];done)|(rw [Bool.eq_iff_iff];simp;done)|(rw [Bool.eq_iff_iff];simp;omega)),rfl⟩):P:=h
theorem zz9{P:Prop}(h:P:=by
 go_wp2_with fail;go_ret;exact⟨zr E.out.symm,hBW⟩):P:=h
theorem zz14{P:Prop}(h:P:=by
 have q5:decide ((c:Int)<=57)=true:=by simp;omega
 have q6:((c:Int)==95)=false:=by simp;omega
 have q7:((c:Int)==64)=false:=by simp;omega
 have hok:Hid (zbo 0 c=false):=zzH (by unfold zbo;apply zzD;omega);have hok2:Hid (zbo 0 s[0].toNat=false):=zzH (by rw [<-HR.out.1];exact hok.out);have HV:Hid (zB s=false):=zzH (HB.out hok2.out);clear HG HK HB HR hok hok2;go_wp2_with fail
 (try simp only [Exit.inBlock,Exit.then])
 go_ret;exact⟨zr HV.out.symm,zdM _ _ _⟩):P:=h
theorem zz12{P:Prop}(h:P:=by
 have q3:decide ((c:Int)<=90)=true:=by simp;omega
 have q4:decide ((48:Int)<=(c:Int))=true:=by simp;omega
 have q5:decide ((c:Int)<=57)=false:=by simp;omega
 have q6:((c:Int)==95)=false:=by simp;omega
 have q7:((c:Int)==64)=false:=by simp;omega
 have hok:Hid (zbo 0 c=false):=zzH (by unfold zbo;apply zzD;omega);have hok2:Hid (zbo 0 s[0].toNat=false):=zzH (by rw [<-HR.out.1];exact hok.out);have HV:Hid (zB s=false):=zzH (HB.out hok2.out);clear HG HK HB HR hok hok2;go_wp2_with fail
 (try simp only [Exit.inBlock,Exit.then])
 go_ret;exact⟨zr HV.out.symm,zdM _ _ _⟩):P:=h
theorem zz15{P:Prop}(h:P:=by
 have hok2:Hid (zbo 0 s[0].toNat=false):=zzH (by rw [<-HR.out.1];exact hok.out);have HV:Hid (zB s=false):=zzH (HB.out hok2.out);clear HG HK HB HR hok hok2;go_wp2_with fail
 (try simp only [Exit.inBlock,Exit.then])
 go_ret;exact⟨zr HV.out.symm,zdM _ _ _⟩):P:=h
theorem zz11{P:Prop}(h:P:=by
 have q2:decide ((65:Int)<=(c:Int))=true:=by simp;omega
 have q3:decide ((c:Int)<=90)=false:=by simp;omega
 have q4:decide ((48:Int)<=(c:Int))=true:=by simp;omega
 have q5:decide ((c:Int)<=57)=false:=by simp;omega
 have q6:((c:Int)==95)=false:=by simp;omega
 have q7:((c:Int)==64)=false:=by simp;omega
 have hok:Hid (zbo 0 c=false):=zzH (by unfold zbo;apply zzD;omega);have hok2:Hid (zbo 0 s[0].toNat=false):=zzH (by rw [<-HR.out.1];exact hok.out);have HV:Hid (zB s=false):=zzH (HB.out hok2.out);clear HG HK HB HR hok hok2;go_wp2_with fail
 (try simp only [Exit.inBlock,Exit.then])
 go_ret;exact⟨zr HV.out.symm,zdM _ _ _⟩):P:=h
theorem zz204{P:Prop}(h:P:=by
 have q6:((c:Int)==95)=false:=by simp;omega
 have q7:((c:Int)==64)=false:=by simp;omega
 have q9:decide ((0:Int)<(pos:Int))=true:=by simp;omega
 have hok:Hid (zbo pos c=false):=zzH (by unfold zbo;apply zzD;omega);have hok2:Hid (zbo pos s[pos].toNat=false):=zzH (by rw [<-HR.out.1];exact hok.out);have HV:Hid (zB s=false):=zzH (HB.out hok2.out);clear HG HK HB HR hok hok2;go_wp2_with fail
 (try simp only [Exit.inBlock,Exit.then])
 go_ret;exact⟨zr HV.out.symm,zdM _ _ _⟩):P:=h
theorem zz13{P:Prop}(h:P:=by
 have q6:((c:Int)==95)=false:=by simp;omega
 have q7:((c:Int)==64)=false:=by simp;omega
 have q9:decide ((0:Int)<(pos:Int))=true:=by simp;omega
 have hok:Hid (zbo pos c=true):=zzH (by unfold zbo;apply zzT;omega);have hok2:Hid (zbo pos s[pos].toNat=true):=zzH (by rw [<-HR.out.1];exact hok.out);obtain rfl:=HR.out.2 hok2.out;have HG2:=zzH (HK.out hok2.out);clear HG HK HB HR hok hok2;go_wp2_with fail;go_roundw
 case rel=>exact⟨_,by omega,rfl,HG2⟩
 case measure=>simp;omega):P:=h
theorem zz16{P:Prop}(h:P:=by
 have hok2:Hid (zbo pos s[pos].toNat=true):=zzH (by rw [<-HR.out.1];exact hok.out);obtain rfl:=HR.out.2 hok2.out;have HG2:=zzH (HK.out hok2.out);clear HG HK HB HR hok hok2;go_wp2_with fail;go_roundw
 case rel=>exact⟨_,by omega,rfl,HG2⟩
 case measure=>simp;omega):P:=h
theorem zz10{P:Prop}(h:P:=by
 have q2:decide ((65:Int)<=(c:Int))=true:=by simp;omega
 have q3:decide ((c:Int)<=90)=false:=by simp;omega
 have q4:decide ((48:Int)<=(c:Int))=true:=by simp;omega
 have q5:decide ((c:Int)<=57)=false:=by simp;omega
 have q6:((c:Int)==95)=false:=by simp;omega
 have q7:((c:Int)==64)=false:=by simp;omega
 have q9:decide ((0:Int)<(pos:Int))=true:=by simp;omega
 have hok:Hid (zbo pos c=false):=zzH (by unfold zbo;apply zzD;omega);have hok2:Hid (zbo pos s[pos].toNat=false):=zzH (by rw [<-HR.out.1];exact hok.out);have HV:Hid (zB s=false):=zzH (HB.out hok2.out);clear HG HK HB HR hok hok2;go_wp2_with fail
 (try simp only [Exit.inBlock,Exit.then])
 go_ret;exact⟨zr HV.out.symm,zdM _ _ _⟩):P:=h
theorem zz208{P:Prop}(h:P:=by
 go_wp2_with fail
 (try simp only [Exit.inBlock,Exit.then])
 go_ret;exact⟨zr HV.out.symm,zdM _ _ _⟩):P:=h
theorem zzq9:type_of% @frozen_of_row:=@frozen_of_row
abbrev zzS:=@heap_setCell_same
theorem zz17{P:Prop}(h:P:=by
 go_in;go_wp2_with (go_at_call 160;first|((with_reducible refine(h0 _).mono ?_);rintro e w1 ⟨rfl,rfl⟩)|((with_reducible refine(h1 _).mono ?_);rintro e w1 ⟨rfl,rfl⟩));exact bodyPost_ret (v:=.tuple #[.agg #[.int .i64 k,.int .i64 0,.int .i64 0,.string ⟨#[]⟩,.string f,.int .i64 a,.slice so l c,.string y,.int .i64 z],.bool (false)]) (by simp [results,Tryz.results159,go_sem]) rfl ⟨rfl,zU _ _ _⟩):P:=h
theorem zz18{P:Prop}(h:P:=by
 obtain⟨q0,q1,q2,q3,q4,q5,q6,q7,q8,z0⟩:=zf r0';obtain⟨p0,p1,p2,p3,p4,p5,p6,p7,p8,z1⟩:=zf r1';go_wp2_with fail;refine bodyPost_ret (zbb rfl _ _ _ (B+1) _ _ _ _ rfl (zbG _ _ _ _ _ _ _ _ _ r1') Tryz.underlying47 (by kernel_rfl)) rfl ?_;exact⟨rfl,by rw [HBE.out];exact zb1 (Nat.le_succ _) hB' _ _ _ _ _ _ _ _ _⟩):P:=h
theorem zzq7:type_of% @heap_setCell_other:=@heap_setCell_other
theorem zz19{P:Prop}(h:P:=by
 go_upto_region 3 with(go_at_call 160;first|((with_reducible refine(h2 _).mono ?_);rintro e w1 ⟨rfl,rfl⟩));have r0':(((w6.setCell ⟨B,3,none⟩ (.string ⟨#[]⟩)).setCell ⟨B,4,none⟩ (.string ⟨#[]⟩)).setCell ⟨B,5,none⟩ (.int .i64 0)).heap[B]?=some (.cells #[.int .i64 k,.int .i64 i,.int .i64 g,.string ⟨#[]⟩,.string ⟨#[]⟩,.int .i64 0,.slice so l c,.string y,.int .i64 z] 47 (0,0)):=(zzS _ _ 5 _ _ (.int .i64 0) (zzS _ _ 4 _ _ (.string ⟨#[]⟩) (zzS _ _ 3 _ _ (.string ⟨#[]⟩) r0)))
 have r1':(((w6.setCell ⟨B,3,none⟩ (.string ⟨#[]⟩)).setCell ⟨B,4,none⟩ (.string ⟨#[]⟩)).setCell ⟨B,5,none⟩ (.int .i64 0)).heap[B+1]?=some (.cells zo 47 (0,0)):=((zzq7 _ _ _ _ (by simp)).trans ((zzq7 _ _ _ _ (by simp)).trans ((zzq7 _ _ _ _ (by simp)).trans r1)))
 have hB':Below B w (((w6.setCell ⟨B,3,none⟩ (.string ⟨#[]⟩)).setCell ⟨B,4,none⟩ (.string ⟨#[]⟩)).setCell ⟨B,5,none⟩ (.int .i64 0)):=(((hB.setCell (zzL _) _).setCell (zzL _) _).setCell (zzL _) _);clear q0 q1 q2 q3 q4 q5 q6 q7 q8 z0 r0 r1 hB;generalize(((w6.setCell ⟨B,3,none⟩ (.string ⟨#[]⟩)).setCell ⟨B,4,none⟩ (.string ⟨#[]⟩)).setCell ⟨B,5,none⟩ (.int .i64 0))=w9 at *;obtain⟨q0,q1,q2,q3,q4,q5,q6,q7,q8,z0⟩:=zf r0';obtain⟨p0,p1,p2,p3,p4,p5,p6,p7,p8,z1⟩:=zf r1';go_wp2_with fail;refine bodyPost_ret (zbb rfl _ _ _ (B+1) _ _ _ _ rfl (zbG _ _ _ _ _ _ _ _ _ r1') Tryz.underlying47 (by kernel_rfl)) rfl ?_;exact⟨rfl,by rw [HBE.out];exact zb1 (Nat.le_succ _) hB' _ _ _ _ _ _ _ _ _⟩):P:=h
theorem zz20{P:Prop}(h:P:=by
 cases b0 with
 |false=>
  go_in;go_wp2_with (go_at_call 160;first|((with_reducible refine(h0 _).mono ?_);rintro e w1 ⟨rfl,rfl⟩)|((with_reducible refine(h1 _).mono ?_);rintro e w1 ⟨rfl,rfl⟩)|((with_reducible refine(h3 _).mono ?_);rintro e w1 ⟨rfl,rfl⟩));exact bodyPost_ret (v:=.tuple #[.agg #[.int .i64 k,.int .i64 0,.int .i64 0,.string ⟨#[]⟩,.string f,.int .i64 0,.slice none 0 0,.string y,.int .i64 z],.bool (false)]) (by simp [results,Tryz.results164,go_sem]) rfl ⟨rfl,zU _ _ _⟩
 |true=>
  cases b1 with
  |false=>
   go_in;go_wp2_with (go_at_call 160;first|((with_reducible refine(h0 _).mono ?_);rintro e w1 ⟨rfl,rfl⟩)|((with_reducible refine(h1 _).mono ?_);rintro e w1 ⟨rfl,rfl⟩)|((with_reducible refine(h3 _).mono ?_);rintro e w1 ⟨rfl,rfl⟩));exact bodyPost_ret (v:=.tuple #[.agg #[.int .i64 k,.int .i64 0,.int .i64 0,.string ⟨#[]⟩,.string f,.int .i64 0,.slice none 0 0,.string y,.int .i64 z],.bool (false)]) (by simp [results,Tryz.results164,go_sem]) rfl ⟨rfl,zU _ _ _⟩
  |true=>
   go_in;go_wp2_with (go_at_call 160;first|((with_reducible refine(h0 _).mono ?_);rintro e w1 ⟨rfl,rfl⟩)|((with_reducible refine(h1 _).mono ?_);rintro e w1 ⟨rfl,rfl⟩)|((with_reducible refine(h3 _).mono ?_);rintro e w1 ⟨rfl,rfl⟩));refine(h2 _).mono ?_;rintro e w7 ⟨rfl,hb5⟩;have r0:w7.heap[w.heap.size]?=some (.cells #[.int .i64 k,.int .i64 i,.int .i64 g,.string n,.string f,.int .i64 a,.slice so l c,.string y,.int .i64 z] 47 (0,0)):=(hb5.block _ (by simp;omega)).trans (zem _ _ _)
   have r1:w7.heap[w.heap.size+1]?=some (.cells zo 47 (0,0)):=(hb5.block _ (by simp)).trans (zd0 _ _ _)
   have hB:Below w.heap.size w w7:=(zU _ _ _).trans (hb5.mono (by simp;omega));clear hb5;generalize hBe:w.heap.size=B at *;have HBE:=zzH hBe;clear hBe;obtain⟨q0,q1,q2,q3,q4,q5,q6,q7,q8,z0⟩:=zf r0
   cases b2 with
   |false=>
    go_upto_region 3 with(go_at_call 160;first|((with_reducible refine(h0 _).mono ?_);rintro e w1 ⟨rfl,rfl⟩)|((with_reducible refine(h1 _).mono ?_);rintro e w1 ⟨rfl,rfl⟩)|((with_reducible refine(h3 _).mono ?_);rintro e w1 ⟨rfl,rfl⟩));have r0':(((((w7.setCell ⟨B,1,none⟩ (.int .i64 0)).setCell ⟨B,2,none⟩ (.int .i64 0)).setCell ⟨B,3,none⟩ (.string ⟨#[]⟩)).setCell ⟨B,5,none⟩ (.int .i64 0)).setCell ⟨B,6,none⟩ (.slice none 0 0)).heap[B]?=some (.cells #[.int .i64 k,.int .i64 0,.int .i64 0,.string ⟨#[]⟩,.string f,.int .i64 0,.slice none 0 0,.string y,.int .i64 z] 47 (0,0)):=(zzS _ _ 6 _ _ (.slice none 0 0) (zzS _ _ 5 _ _ (.int .i64 0) (zzS _ _ 3 _ _ (.string ⟨#[]⟩) (zzS _ _ 2 _ _ (.int .i64 0) (zzS _ _ 1 _ _ (.int .i64 0) r0)))))
    have r1':(((((w7.setCell ⟨B,1,none⟩ (.int .i64 0)).setCell ⟨B,2,none⟩ (.int .i64 0)).setCell ⟨B,3,none⟩ (.string ⟨#[]⟩)).setCell ⟨B,5,none⟩ (.int .i64 0)).setCell ⟨B,6,none⟩ (.slice none 0 0)).heap[B+1]?=some (.cells zo 47 (0,0)):=((zzq7 _ _ _ _ (by simp)).trans ((zzq7 _ _ _ _ (by simp)).trans ((zzq7 _ _ _ _ (by simp)).trans ((zzq7 _ _ _ _ (by simp)).trans ((zzq7 _ _ _ _ (by simp)).trans r1)))))
    have hB':Below B w (((((w7.setCell ⟨B,1,none⟩ (.int .i64 0)).setCell ⟨B,2,none⟩ (.int .i64 0)).setCell ⟨B,3,none⟩ (.string ⟨#[]⟩)).setCell ⟨B,5,none⟩ (.int .i64 0)).setCell ⟨B,6,none⟩ (.slice none 0 0)):=(((((hB.setCell (zzL _) _).setCell (zzL _) _).setCell (zzL _) _).setCell (zzL _) _).setCell (zzL _) _);clear q0 q1 q2 q3 q4 q5 q6 q7 q8 z0 r0 r1 hB;generalize(((((w7.setCell ⟨B,1,none⟩ (.int .i64 0)).setCell ⟨B,2,none⟩ (.int .i64 0)).setCell ⟨B,3,none⟩ (.string ⟨#[]⟩)).setCell ⟨B,5,none⟩ (.int .i64 0)).setCell ⟨B,6,none⟩ (.slice none 0 0))=w9 at *;obtain⟨q0,q1,q2,q3,q4,q5,q6,q7,q8,z0⟩:=zf r0';obtain⟨p0,p1,p2,p3,p4,p5,p6,p7,p8,z1⟩:=zf r1';go_wp2_with fail;refine bodyPost_ret (zbb rfl _ _ _ (B+1) _ _ _ _ rfl (zbG _ _ _ _ _ _ _ _ _ r1') Tryz.underlying47 (by kernel_rfl)) rfl ?_;exact⟨rfl,by rw [HBE.out];exact zb1 (Nat.le_succ _) hB' _ _ _ _ _ _ _ _ _⟩
   |true=>
    cases b3 with
    |false=>
     go_upto_region 3 with(go_at_call 160;first|((with_reducible refine(h0 _).mono ?_);rintro e w1 ⟨rfl,rfl⟩)|((with_reducible refine(h1 _).mono ?_);rintro e w1 ⟨rfl,rfl⟩)|((with_reducible refine(h3 _).mono ?_);rintro e w1 ⟨rfl,rfl⟩));have r0':(((((w7.setCell ⟨B,1,none⟩ (.int .i64 0)).setCell ⟨B,2,none⟩ (.int .i64 0)).setCell ⟨B,3,none⟩ (.string ⟨#[]⟩)).setCell ⟨B,5,none⟩ (.int .i64 0)).setCell ⟨B,6,none⟩ (.slice none 0 0)).heap[B]?=some (.cells #[.int .i64 k,.int .i64 0,.int .i64 0,.string ⟨#[]⟩,.string f,.int .i64 0,.slice none 0 0,.string y,.int .i64 z] 47 (0,0)):=(zzS _ _ 6 _ _ (.slice none 0 0) (zzS _ _ 5 _ _ (.int .i64 0) (zzS _ _ 3 _ _ (.string ⟨#[]⟩) (zzS _ _ 2 _ _ (.int .i64 0) (zzS _ _ 1 _ _ (.int .i64 0) r0)))))
     have r1':(((((w7.setCell ⟨B,1,none⟩ (.int .i64 0)).setCell ⟨B,2,none⟩ (.int .i64 0)).setCell ⟨B,3,none⟩ (.string ⟨#[]⟩)).setCell ⟨B,5,none⟩ (.int .i64 0)).setCell ⟨B,6,none⟩ (.slice none 0 0)).heap[B+1]?=some (.cells zo 47 (0,0)):=((zzq7 _ _ _ _ (by simp)).trans ((zzq7 _ _ _ _ (by simp)).trans ((zzq7 _ _ _ _ (by simp)).trans ((zzq7 _ _ _ _ (by simp)).trans ((zzq7 _ _ _ _ (by simp)).trans r1)))))
     have hB':Below B w (((((w7.setCell ⟨B,1,none⟩ (.int .i64 0)).setCell ⟨B,2,none⟩ (.int .i64 0)).setCell ⟨B,3,none⟩ (.string ⟨#[]⟩)).setCell ⟨B,5,none⟩ (.int .i64 0)).setCell ⟨B,6,none⟩ (.slice none 0 0)):=(((((hB.setCell (zzL _) _).setCell (zzL _) _).setCell (zzL _) _).setCell (zzL _) _).setCell (zzL _) _);clear q0 q1 q2 q3 q4 q5 q6 q7 q8 z0 r0 r1 hB;generalize(((((w7.setCell ⟨B,1,none⟩ (.int .i64 0)).setCell ⟨B,2,none⟩ (.int .i64 0)).setCell ⟨B,3,none⟩ (.string ⟨#[]⟩)).setCell ⟨B,5,none⟩ (.int .i64 0)).setCell ⟨B,6,none⟩ (.slice none 0 0))=w9 at *;obtain⟨q0,q1,q2,q3,q4,q5,q6,q7,q8,z0⟩:=zf r0';obtain⟨p0,p1,p2,p3,p4,p5,p6,p7,p8,z1⟩:=zf r1';go_wp2_with fail;refine bodyPost_ret (zbb rfl _ _ _ (B+1) _ _ _ _ rfl (zbG _ _ _ _ _ _ _ _ _ r1') Tryz.underlying47 (by kernel_rfl)) rfl ?_;exact⟨rfl,by rw [HBE.out];exact zb1 (Nat.le_succ _) hB' _ _ _ _ _ _ _ _ _⟩
    |true=>
     go_upto_region 3 with(go_at_call 160;first|((with_reducible refine(h0 _).mono ?_);rintro e w1 ⟨rfl,rfl⟩)|((with_reducible refine(h1 _).mono ?_);rintro e w1 ⟨rfl,rfl⟩)|((with_reducible refine(h3 _).mono ?_);rintro e w1 ⟨rfl,rfl⟩));have r0':(((((w7.setCell ⟨B,1,none⟩ (.int .i64 0)).setCell ⟨B,2,none⟩ (.int .i64 0)).setCell ⟨B,3,none⟩ (.string ⟨#[]⟩)).setCell ⟨B,5,none⟩ (.int .i64 0)).setCell ⟨B,6,none⟩ (.slice none 0 0)).heap[B]?=some (.cells #[.int .i64 k,.int .i64 0,.int .i64 0,.string ⟨#[]⟩,.string f,.int .i64 0,.slice none 0 0,.string y,.int .i64 z] 47 (0,0)):=(zzS _ _ 6 _ _ (.slice none 0 0) (zzS _ _ 5 _ _ (.int .i64 0) (zzS _ _ 3 _ _ (.string ⟨#[]⟩) (zzS _ _ 2 _ _ (.int .i64 0) (zzS _ _ 1 _ _ (.int .i64 0) r0)))))
     have r1':(((((w7.setCell ⟨B,1,none⟩ (.int .i64 0)).setCell ⟨B,2,none⟩ (.int .i64 0)).setCell ⟨B,3,none⟩ (.string ⟨#[]⟩)).setCell ⟨B,5,none⟩ (.int .i64 0)).setCell ⟨B,6,none⟩ (.slice none 0 0)).heap[B+1]?=some (.cells zo 47 (0,0)):=((zzq7 _ _ _ _ (by simp)).trans ((zzq7 _ _ _ _ (by simp)).trans ((zzq7 _ _ _ _ (by simp)).trans ((zzq7 _ _ _ _ (by simp)).trans ((zzq7 _ _ _ _ (by simp)).trans r1)))))
     have hB':Below B w (((((w7.setCell ⟨B,1,none⟩ (.int .i64 0)).setCell ⟨B,2,none⟩ (.int .i64 0)).setCell ⟨B,3,none⟩ (.string ⟨#[]⟩)).setCell ⟨B,5,none⟩ (.int .i64 0)).setCell ⟨B,6,none⟩ (.slice none 0 0)):=(((((hB.setCell (zzL _) _).setCell (zzL _) _).setCell (zzL _) _).setCell (zzL _) _).setCell (zzL _) _);clear q0 q1 q2 q3 q4 q5 q6 q7 q8 z0 r0 r1 hB;generalize(((((w7.setCell ⟨B,1,none⟩ (.int .i64 0)).setCell ⟨B,2,none⟩ (.int .i64 0)).setCell ⟨B,3,none⟩ (.string ⟨#[]⟩)).setCell ⟨B,5,none⟩ (.int .i64 0)).setCell ⟨B,6,none⟩ (.slice none 0 0))=w9 at *;obtain⟨q0,q1,q2,q3,q4,q5,q6,q7,q8,z0⟩:=zf r0';obtain⟨p0,p1,p2,p3,p4,p5,p6,p7,p8,z1⟩:=zf r1';go_wp2_with fail;refine bodyPost_ret (zbb rfl _ _ _ (B+1) _ _ _ _ rfl (zbG _ _ _ _ _ _ _ _ _ r1') Tryz.underlying47 (by kernel_rfl)) rfl ?_;exact⟨rfl,by rw [HBE.out];exact zb1 (Nat.le_succ _) hB' _ _ _ _ _ _ _ _ _⟩):P:=h
theorem zzq8:type_of% @List.getElem?_eq_getElem.{0}:=@List.getElem?_eq_getElem
theorem zz21{P:Prop}(h:P:=by
 go_in;go_wp2_with (go_at_call 160;refine(h0 _).mono ?_;rintro e w1 ⟨rfl,rfl⟩);exact bodyPost_ret (v:=.tuple #[.agg #[.int .i64 k,.int .i64 i,.int .i64 g,.string n,.string f,.int .i64 a,.slice so l c,.string ⟨#[]⟩,.int .i64 0],.bool false]) (by simp [results,Tryz.results169,go_sem]) rfl ⟨rfl,zU _ _ _⟩):P:=h
theorem zz22{P:Prop}(h:P:=by
 simp only [Bool.true_and,Bool.false_and,Bool.and_true,Bool.and_false]at E0;go_in;go_wp2_with fail;go_ret;exact⟨zr E0.out.symm,HBE.out⟩):P:=h
theorem zz23{P:Prop}(h:P:=by
 rintro e w' ⟨rfl,hb'⟩;refine⟨so,c,?_,?_,hb'⟩
 ·(rw [e1,e2])<;>rfl
 ·rw [e1];exact hs):P:=h
theorem zz24{P:Prop}(h:P:=by
 have e1:zd t= .mk t.kind 0 0 ⟨#[]⟩ t.func t.arity t.items t.bytes t.bits:=by unfold zd;simp [hk]
 have e2:okK t=(wi t.int 1 2147483647&&wi t.gen 1 2147483647&&zB t.name):=by unfold okK;simp [hk]
 refine(zpq t.kind t.int t.gen t.name t.func t.arity so t.items.length c t.bytes t.bits w).mono ?_;rintro e w' ⟨rfl,hb'⟩;refine⟨so,c,?_,?_,hb'⟩
 ·(rw [e1,e2])<;>rfl
 ·rw [e1];exact hs):P:=h
theorem zz25{P:Prop}(h:P:=by
 rintro e w' ⟨rfl,hb'⟩;refine⟨none,0,?_,?_,hb'⟩
 ·(rw [e1,e2])<;>rfl
 ·rw [e1];exact SlAt.nil w0 9 _ none):P:=h
abbrev zzY:=@Nat.le_trans
theorem zz26{P:Prop}(h:P:=by
 go_in;go_wp2_with fail;go_ret;exact⟨zr E.out.symm,zbf H2.out _,s,Int.le_refl _,by omega,hm.below H2.out,fun h=>absurd (E.out.symm.trans h) (by decide)⟩):P:=h
theorem zz30{P:Prop}(h:P:=by
 go_wp2_with fail;go_meet
 case rel=>exact⟨_,so',c',rfl,rfl,hbb.size,hs',heap_alloc_new _ _,hbb.alloc hbb.size _⟩):P:=h
theorem zz29{P:Prop}(h:P:=by
 go_wp2_with fail;go_meet
 case rel=>exact⟨_,so',c',rfl,rfl,zzL _,hs',zbG _ _ _ _ _ _ _ _ _ XL.out,zb1 (zzL _) hbb _ _ _ _ _ _ _ _ _⟩):P:=h
theorem zz27{P:Prop}(h:P:=by
 first|go_region_held3 (fun w'=>W2.heap.size<=w'.heap.size/\ ∀b o,b<W2.heap.size->w'.cell? ⟨b,o,none⟩=W2.cell? ⟨b,o,none⟩) (first|with_reducible exact HK5.out|with_reducible exact SK0.out|with_reducible exact zbW SK0.out|with_reducible exact SK1.out|with_reducible exact zbW HK5.out|with_reducible exact zdW HK5.out)
  ((go_at_call 159;refine(hQ _).mono ?_;rintro e w5 ⟨so',c',rfl,hs',hb5⟩;first|(have hbb:Below W2.heap.size W2 w5:=(by with_reducible exact ze HDR.out hb5);have HK5:=zzH (zbl hbb))|(have hbb:Below W2.heap.size W2 w5:=(by with_reducible exact ze HDA.out hb5);have xl:w5.heap[W2.heap.size]?=some (.cells zo 47 (0,0)):=(hb5.block W2.heap.size (zc HAN.out)).trans HAN.out;have XL:=zzH xl;obtain⟨l0,l1,l2,l3,l4,l5,l6,l7,l8,lz⟩:=zf xl;clear xl;have HK5:=zzH (zbl hbb))))|fail
 ·go_wp2_with fail
  go_meet
  case rel=>exact⟨_,so',c',rfl,rfl,hbb.size,hs',heap_alloc_new _ _,hbb.alloc hbb.size _⟩
 ·go_wp2_with fail
  go_meet
  case rel=>exact⟨_,so',c',rfl,rfl,zzL _,hs',zbG _ _ _ _ _ _ _ _ _ XL.out,zb1 (zzL _) hbb _ _ _ _ _ _ _ _ _⟩):P:=h
theorem zz28{P:Prop}(h:P:=by
 clear hR0 hR1 yz;generalize t.items.all (zj f)=al at *;generalize zbP (t.items.map (zx f))=sw at *;generalize zcw (t.items.map (zR f))=sc at *
 cases al with
 |false=>
  go_wp2_with fail;refine hCF.mono ?_;rintro e w9 ⟨rfl,hg9,s',z1,z2,z3,z4⟩;go_wp2_with fail;go_ret;exact⟨zr EF.out.symm,zh HG8.out hg9,s',by omega,by omega,z3,fun h=>absurd (EF.out.symm.trans h) (by decide)⟩
 |true=>
  go_wp2_with fail;refine hCF.mono ?_;rintro e w9 ⟨rfl,hg9,s',z1,z2,z3,z4⟩;go_wp2_with fail;go_ret;exact⟨zr EF.out.symm,zh HG8.out hg9,s',by omega,by omega,z3,fun _=>by rw [EW.out,z4 (by trivial)];omega⟩):P:=h
theorem zz31{P:Prop}(h:P:=by
 have h:=(hB0r.cell (p:=⟨b1,off1+k*9+6,none⟩) hb1').symm.trans q6;rw [q6']at h;injection h with h;injection h with h1 h2;exact h1.symm):P:=h
theorem zz32{P:Prop}(h:P:=by
 go_wp2_with fail;go_roundw
 case rel=>exact⟨k+1,by omega,by go_num,HG5⟩
 case measure=>simp [intOf];omega):P:=h
theorem zz33{P:Prop}(h:P:=by
 go_in;go_wp2_with fail;refine hS.mono ?_;rintro e w5 ⟨rfl,hb5⟩;go_wp2_with fail;go_ret;exact⟨zdl E.out.symm,ze HB.out hb5⟩):P:=h
theorem zz36{P:Prop}(h:P:=by
 go_in;go_wp2_with fail;refine(hnm _).mono ?_;rintro e w5 ⟨rfl,hb5⟩;have d1:=(HU.out.below hb5).c1;have d2:=(HU.out.below hb5).c2;have d3:=(HU.out.below hb5).c3;have d4:=(HU.out.below hb5).c4;go_wp2_with fail;go_ret;exact⟨zr E.out.symm,hb5⟩):P:=h
theorem zz35{P:Prop}(h:P:=by
 have E:Hid (zba (f+1) u=false):=zzH (by rw [HE2.out,HNO.out (.inl (by rw [HFO.out];rfl))];rfl);go_wp2_with (go_at_call 64;first|((with_reducible refine(hwa _).mono ?_);rintro e w1 ⟨rfl,rfl⟩)|((with_reducible refine(hwe _).mono ?_);rintro e w1 ⟨rfl,rfl⟩));go_ret;exact⟨zr E.out.symm,HB6.out⟩):P:=h
theorem zz34{P:Prop}(h:P:=by
 have E:=zzH (HNO.out (by rw [HFB2.out];rfl));go_wp2_with (go_at_call 64;first|((with_reducible refine(hwa _).mono ?_);rintro e w1 ⟨rfl,rfl⟩)|((with_reducible refine(hwf _).mono ?_);rintro e w1 ⟨rfl,rfl⟩)|((with_reducible refine(hwe _).mono ?_);rintro e w1 ⟨rfl,rfl⟩));go_ret;exact⟨zr E.out.symm,HBX.out⟩):P:=h
theorem zz38{P:Prop}(h:P:=by
 have t1:(x.n==1)=true:=by rw [n1];rfl
 have E2:Hid (zl u.funcs.length u.funs x=true):=zzH (by rw [E.out,decide_eq_true n1];rfl);clear n1;go_in;go_wp2_with fail;go_ret;exact⟨zr E2.out.symm,zzR _ _⟩):P:=h
theorem zz37{P:Prop}(h:P:=by
 have t1:(x.n==1)=false:=zzB.2 n1;by_cases n8:x.n=8
 ·have t2:(x.n==8)=true:=by rw [n8];rfl
  have E2:Hid (zl u.funcs.length u.funs x=true):=zzH (by rw [E.out,decide_eq_true n8];simp);clear n1 n8;go_in;go_wp2_with fail;go_ret;exact⟨zr E2.out.symm,zzR _ _⟩
 ·have t2:(x.n==8)=false:=zzB.2 n8
  have E2:Hid (zl u.funcs.length u.funs x=false):=zzH (by rw [E.out,decide_eq_false n1,decide_eq_false n8];rfl);clear n1 n8;go_in;go_wp2_with fail;go_ret;exact⟨zr E2.out.symm,zzR _ _⟩):P:=h
theorem zz40{P:Prop}(h:P:=by
 exact this.mono fun _ _ ⟨a,b⟩=>⟨a,b.symm⟩):P:=h
theorem zz39{P:Prop}(h:P:=by
 clear hz hm;go_in;go_wp2_with fail;go_quiet ((go_at_call 64;exact Calls.quiet_of_same (hwr _)));go_wp2_with fail;go_ret;exact⟨zr E3.out.symm,zY (zzR _ _) _⟩):P:=h
theorem zzq11:type_of% @Int.toNat_natCast:=@Int.toNat_natCast
theorem zz41{P:Prop}(h:P:=by
 go_in;go_wp2_with fail;go_ret;exact⟨zr E.out.symm,rfl⟩):P:=h
theorem zzq12:type_of% @heap_setCell_same:=@heap_setCell_same
theorem zzq4:type_of% @List.append_assoc.{0}:=@List.append_assoc
theorem zzq1:type_of% @List.length_append.{0}:=@List.length_append
theorem zzX4:type_of% (And.intro @Bool.true_or (And.intro @Bool.or_true (And.intro @Bool.false_or (And.intro @Bool.or_false (And.intro @Bool.and_true (And.intro @Bool.and_false (And.intro @Bool.true_and (And.intro @Bool.false_and (And.intro @Bool.not_true @Bool.not_false))))))))):=And.intro @Bool.true_or (And.intro @Bool.or_true (And.intro @Bool.false_or (And.intro @Bool.or_false (And.intro @Bool.and_true (And.intro @Bool.and_false (And.intro @Bool.true_and (And.intro @Bool.false_and (And.intro @Bool.not_true @Bool.not_false))))))))
theorem zz43{P:Prop}(h:P:=by
 simp only [zzX4]at E0;go_in;go_wp2_with (first|(go_at_call 67;refine(hO _).mono ?_;rintro e w1 ⟨rfl,rfl⟩)|(go_at_call 68;refine hCl.mono ?_;rintro e w5 ⟨rfl,hb5⟩))
 all_goals go_ret
 all_goals first
  |exact⟨zr E0.out.symm,zzR _ _⟩
  |exact⟨zr E0.out.symm,hb5⟩):P:=h
theorem zz42{P:Prop}(h:P:=by
 cases t3:(nm.toList== [43,43])with
 |true=>
  simp only [t3]at E0
  cases q1:(cl==1)with
  |true=>
   simp only [q1]at E0;simp only [zzX4]at E0;go_in;go_wp2_with (first|(go_at_call 67;refine(hO _).mono ?_;rintro e w1 ⟨rfl,rfl⟩)|(go_at_call 68;refine hCl.mono ?_;rintro e w5 ⟨rfl,hb5⟩))
   all_goals go_ret
   all_goals first
    |exact⟨zr E0.out.symm,zzR _ _⟩
    |exact⟨zr E0.out.symm,hb5⟩
  |false=>
   simp only [q1]at E0;simp only [zzX4]at E0;go_in;go_wp2_with (first|(go_at_call 67;refine(hO _).mono ?_;rintro e w1 ⟨rfl,rfl⟩)|(go_at_call 68;refine hCl.mono ?_;rintro e w5 ⟨rfl,hb5⟩))
   all_goals go_ret
   all_goals first
    |exact⟨zr E0.out.symm,zzR _ _⟩
    |exact⟨zr E0.out.symm,hb5⟩
 |false=>
  simp only [t3]at E0
  cases ob with
  |true=>
   simp only [zzX4]at E0;go_in;go_wp2_with (first|(go_at_call 67;refine(hO _).mono ?_;rintro e w1 ⟨rfl,rfl⟩)|(go_at_call 68;refine hCl.mono ?_;rintro e w5 ⟨rfl,hb5⟩))
   all_goals go_ret
   all_goals first
    |exact⟨zr E0.out.symm,zzR _ _⟩
    |exact⟨zr E0.out.symm,hb5⟩
  |false=>
   cases q1:(cl==1)with
   |true=>
    simp only [q1]at E0;simp only [zzX4]at E0;go_in;go_wp2_with (first|(go_at_call 67;refine(hO _).mono ?_;rintro e w1 ⟨rfl,rfl⟩)|(go_at_call 68;refine hCl.mono ?_;rintro e w5 ⟨rfl,hb5⟩))
    all_goals go_ret
    all_goals first
     |exact⟨zr E0.out.symm,zzR _ _⟩
     |exact⟨zr E0.out.symm,hb5⟩
   |false=>
    simp only [q1]at E0;simp only [zzX4]at E0;go_in;go_wp2_with (first|(go_at_call 67;refine(hO _).mono ?_;rintro e w1 ⟨rfl,rfl⟩)|(go_at_call 68;refine hCl.mono ?_;rintro e w5 ⟨rfl,hb5⟩))
    all_goals go_ret
    all_goals first
     |exact⟨zr E0.out.symm,zzR _ _⟩
     |exact⟨zr E0.out.symm,hb5⟩):P:=h
theorem zz45{P:Prop}(h:P:=by
 simp only [Bool.true_or,Bool.or_true,Bool.false_or,Bool.or_false]at E0;go_in;go_wp2_with fail;refine hCl.mono ?_;rintro e w5 ⟨rfl,hb5⟩;have d3:=(hb5.cell (p:=⟨b,o+3,none⟩) hlt).trans c3;have d7:=(hb5.cell (p:=⟨b,o+7,none⟩) hlt).trans c7;go_wp2_with (go_at_call 67;refine(hO _).mono ?_;rintro e w1 ⟨rfl,rfl⟩)
 all_goals go_ret
 all_goals exact⟨zr E0.out.symm,hb5⟩):P:=h
theorem zz44{P:Prop}(h:P:=by
 simp only [q2]at E0;simp only [Bool.true_or,Bool.or_true,Bool.false_or,Bool.or_false]at E0;go_in;go_wp2_with fail;refine hCl.mono ?_;rintro e w5 ⟨rfl,hb5⟩;have d3:=(hb5.cell (p:=⟨b,o+3,none⟩) hlt).trans c3;have d7:=(hb5.cell (p:=⟨b,o+7,none⟩) hlt).trans c7;go_wp2_with (go_at_call 67;refine(hO _).mono ?_;rintro e w1 ⟨rfl,rfl⟩)
 all_goals go_ret
 all_goals exact⟨zr E0.out.symm,hb5⟩):P:=h
theorem zz46{P:Prop}(h:P:=by
 simp only [q3]at E0;simp only [Bool.true_or,Bool.or_true,Bool.false_or,Bool.or_false,Bool.and_true,Bool.and_false,Bool.true_and,Bool.false_and]at E0;go_in;go_wp2_with fail
 first|go_region_held3 (fun w'=>w'.cell? ⟨b,o+7,none⟩=some (.string nm)/\w'.cell? ⟨b,o+5,none⟩=some (.int .i64 ln)) (exact⟨by assumption,by assumption⟩)
  ((go_at_call 68;refine(hCl _ ?_).mono ?_;exact HDR.out;rintro e w5 ⟨rfl,hb5⟩;have d7:=(hb5.cell (p:=⟨b,o+7,none⟩) hlt).trans c7;have d5:=(hb5.cell (p:=⟨b,o+5,none⟩) hlt).trans c5))|fail
 go_wp2_with fail;go_ret
 first
  |exact⟨zr E0.out.symm,hb5⟩
  |exact⟨zr E0.out.symm,zzR _ _⟩):P:=h
theorem zzX0:type_of% (And.intro @Act.put.eq_1 (And.intro @List.setIfInBounds_toArray.{0} (And.intro @List.set_cons_zero.{0} (And.intro @List.set_cons_succ.{0} (And.intro @List.getElem_toArray.{0} (And.intro @List.getElem_cons_zero.{0} @List.getElem_cons_succ.{0})))))):=And.intro @Act.put.eq_1 (And.intro @List.setIfInBounds_toArray.{0} (And.intro @List.set_cons_zero.{0} (And.intro @List.set_cons_succ.{0} (And.intro @List.getElem_toArray.{0} (And.intro @List.getElem_cons_zero.{0} @List.getElem_cons_succ.{0})))))
theorem zzX6:type_of% (And.intro @List.getElem_toArray.{0} (And.intro @List.getElem_cons_zero.{0} @List.getElem_cons_succ.{0})):=And.intro @List.getElem_toArray.{0} (And.intro @List.getElem_cons_zero.{0} @List.getElem_cons_succ.{0})
theorem zz47{P:Prop}(h:P:=by
 go_in;go_wp2_with (go_at_call 182;refine(zkZ _ _).mono ?_;rintro e w1 ⟨rfl,rfl⟩);go_ret;exact⟨zdl E.out.symm,rfl⟩):P:=h
theorem zz52{P:Prop}(h:P:=by
 go_wp2_with (go_at_call 64;refine(hwi _).mono ?_;rintro e w1 ⟨rfl,rfl⟩);go_meet
 case rel=>exact⟨_,rfl,zzH (by rw [hv.out];(first|rfl|(rw [sd];rfl)|(rw [decide_eq_true s60'];rfl))),rfl⟩):P:=h
theorem zz53{P:Prop}(h:P:=by
 go_wp2_with fail;go_meet
 case rel=>exact⟨_,rfl,zzH (by rw [hv.out];(first|rfl|(rw [sd];rfl)|(rw [decide_eq_true s60'];rfl))),rfl⟩):P:=h
theorem zz54{P:Prop}(h:P:=by
 by_cases h:0<=cl'/\cl'<=(u.lits.length:Int)-1
 ·exact h
 ·rw [zdN h]at hprev;cases hprev):P:=h
theorem zz50{P:Prop}(h:P:=by
 rw [hz]at HSB;clear hz;have hsv0:sb=false:=by rw [HSB.out];simp []
 have HSV:=zzH hsv0;clear hsv0;go_wp2_with (go_at_call 64;refine(hwt _).mono ?_;rintro e w1 ⟨rfl,rfl⟩);have HE3:Hid (zby u.lits x=false):=zzH (by rw [HE2.out,HK.out,HST.out,HSV.out];rfl);go_ret;exact⟨zr HE3.out.symm,HBQ.out.trans (HBX.out.mono HBQ.out.size)⟩):P:=h
theorem zz49{P:Prop}(h:P:=by
 rw [hz]at HSB;clear hz;have hsv0:sb=false:=by rw [HSB.out];simp []
 have HSV:=zzH hsv0;clear hsv0;go_wp2_with (go_at_call 64;refine(hwt _).mono ?_;rintro e w1 ⟨rfl,rfl⟩);refine(hop1 _ HBX.out).mono ?_;rintro e w5 ⟨rfl,hb5⟩;have HB5:=zzH (ze HBX.out hb5);have hbra:=(hb5.block wr.heap.size (zc HBR.out)).trans HBR.out;obtain⟨g0,g1,g2,g3,g4,g5⟩:=zdc hbra;clear hb5;have HE3:Hid (zby u.lits x=false):=zzH (by rw [HE2.out,HK.out,HST.out,HSV.out];rfl);go_wp2_with fail;go_ret;exact⟨zr HE3.out.symm,HBQ.out.trans (HB5.out.mono HBQ.out.size)⟩):P:=h
theorem zz48{P:Prop}(h:P:=by
 rw [hz]at HSB;clear hz
 cases os with
 |false=>
  have hsv0:sb=false:=by rw [HSB.out];simp []
  have HSV:=zzH hsv0;clear hsv0;go_wp2_with (go_at_call 64;refine(hwt _).mono ?_;rintro e w1 ⟨rfl,rfl⟩);refine(hop1 _ HBX.out).mono ?_;rintro e w5 ⟨rfl,hb5⟩;have HB5:=zzH (ze HBX.out hb5);have hbra:=(hb5.block wr.heap.size (zc HBR.out)).trans HBR.out;obtain⟨g0,g1,g2,g3,g4,g5⟩:=zdc hbra;clear hb5;go_wp2_with fail;refine(hop2 _ HB5.out).mono ?_;rintro e w6 ⟨rfl,hb6⟩;have HB6:=zzH (ze HB5.out hb6);clear g0 g1 g2 g3 g4 g5;have hbrb:=(hb6.block wr.heap.size (zc hbra)).trans hbra;obtain⟨g0,g1,g2,g3,g4,g5⟩:=zdc hbrb;clear hb6;have HE3:Hid (zby u.lits x=false):=zzH (by rw [HE2.out,HK.out,HST.out,HSV.out];rfl);go_wp2_with fail;go_ret;exact⟨zr HE3.out.symm,HBQ.out.trans (HB6.out.mono HBQ.out.size)⟩
 |true=>
  go_wp2_with (go_at_call 64;refine(hwt _).mono ?_;rintro e w1 ⟨rfl,rfl⟩);refine(hop1 _ HBX.out).mono ?_;rintro e w5 ⟨rfl,hb5⟩;have HB5:=zzH (ze HBX.out hb5);have hbra:=(hb5.block wr.heap.size (zc HBR.out)).trans HBR.out;obtain⟨g0,g1,g2,g3,g4,g5⟩:=zdc hbra;clear hb5;go_wp2_with fail;refine(hop2 _ HB5.out).mono ?_;rintro e w6 ⟨rfl,hb6⟩;have HB6:=zzH (ze HB5.out hb6);clear g0 g1 g2 g3 g4 g5;have hbrb:=(hb6.block wr.heap.size (zc hbra)).trans hbra;obtain⟨g0,g1,g2,g3,g4,g5⟩:=zdc hbrb;clear hb6
  cases lit with
  |false=>
   have hsv0:sb=true:=by rw [HSB.out];simp []
   have HSV:=zzH hsv0;clear hsv0;have HK2:Hid (x.segs.all (zbY u.lits.length)=(x.segs.drop (k+1)).all (zbY u.lits.length)):=zzH (by rw [HK.out,HST.out,HSV.out];rfl);go_wp2_with fail;go_roundw
   case rel=>exact⟨k+1,by omega,by go_num,HK2,HBQ.out.trans (HB6.out.mono HBQ.out.size)⟩
   case measure=>simp [intOf];omega
  |true=>
   cases ty1:(ty==1)with
   |true=>
    have ty2 : (ty != 1) = false := by unfold bne; rw [ty1]; rfl
    have hsv0:sb=true:=by rw [HSB.out];simp [ty1]
    have HSV:=zzH hsv0;clear hsv0;have HK2:Hid (x.segs.all (zbY u.lits.length)=(x.segs.drop (k+1)).all (zbY u.lits.length)):=zzH (by rw [HK.out,HST.out,HSV.out];rfl);go_wp2_with fail;go_roundw
    case rel=>exact⟨k+1,by omega,by go_num,HK2,HBQ.out.trans (HB6.out.mono HBQ.out.size)⟩
    case measure=>simp [intOf];omega
   |false=>
    have ty2 : (ty != 1) = true := by unfold bne; rw [ty1]; rfl
    have hsv0:sb=false:=by rw [HSB.out];simp [ty1]
    have HSV:=zzH hsv0;clear hsv0;have HE3:Hid (zby u.lits x=false):=zzH (by rw [HE2.out,HK.out,HST.out,HSV.out];rfl);go_wp2_with fail;go_ret;exact⟨zr HE3.out.symm,HBQ.out.trans (HB6.out.mono HBQ.out.size)⟩):P:=h
theorem zz51{P:Prop}(h:P:=by
 have HSV:=zzH hsv0;clear hsv0;have HK2:Hid (x.segs.all (zbY u.lits.length)=(x.segs.drop (k+1)).all (zbY u.lits.length)):=zzH (by rw [HK.out,HST.out,HSV.out];rfl);go_wp2_with fail;go_roundw
 case rel=>exact⟨k+1,by omega,by go_num,HK2,HBQ.out.trans (HB5.out.mono HBQ.out.size)⟩
 case measure=>simp [intOf];omega):P:=h
theorem zz55{P:Prop}(h:P:=by
 unfold wi at h;rw [Bool.and_eq_true,decide_eq_true_eq,decide_eq_true_eq]at h;exact h):P:=h
theorem zz56{P:Prop}(h:P:=by
 have hb:=h i cs t fr hi h1 h2;refine(hg.block i (zc hb) (fun e=>?_)).trans hb;obtain⟨c',fz,hk⟩:=Lib.ownsRow_kind ho i e.symm;rw [hb]at hk;injection hk with hk;injection hk with _ h3 _;exact h1 h3):P:=h
theorem zz57{P:Prop}(h:P:=by
 have hb:=h i cs t fr hi h1 h2;refine(Below.heap_setCell _ _ _ _ (fun e=>?_)).trans hb;simp only at e;subst e;rw [hb]at hr;injection hr with hr;injection hr with _ h3 _;exact h2 h3):P:=h
theorem zz58{P:Prop}(h:P:=by
 exact ho.kept ⟨rfl,rfl,rfl,by simp [World.setCell],fun k _ hk=>Below.heap_setCell _ _ _ _ (fun e=>hk (by rw [e]))⟩ (.inr (fun e=>hne e))):P:=h
theorem zz59{P:Prop}(h:P:=by
 rw [hgrow.block r (by simp;omega) (fun e=>hne e.symm)];exact(Below.heap_alloc _ _ _ hrl).trans hbk):P:=h
theorem zz60{P:Prop}(h:P:=by
 rcases hloc with e|e
 ·rw [e];exact hne
 ·rw [e];intro e2;have:=Option.some.inj e2;omega):P:=h
theorem zzq13:type_of% @List.length_cons.{0}:=@List.length_cons
theorem zz61{P:Prop}(h:P:=by
 obtain⟨h1,h2⟩:=zcv h;exact⟨h1,by omega,by omega,by omega⟩):P:=h
theorem zz62{P:Prop}(h:P:=by
 cases e:zm h 64 with
 |false=>rw [e,Bool.false_or]at f7;have:=eq_of_beq f7;omega
 |true=>rw [e]at h5;have:=zcv (show wi x.to ((i:Int)+1) ((u.code.length:Int)-1)=true from h5.2);omega):P:=h
theorem zz63{P:Prop}(h:P:=by
 go_wp2_with fail;go_meet
 case rel=>exact⟨p,zzH (by rw [HP.out];rfl),by omega,HWp,HBp,HSp⟩):P:=h
theorem zz64{P:Prop}(h:P:=by
 go_wp2_with fail;go_meet
 case rel=>exact⟨p',HZ,by omega,HWk,HBk,HSk⟩):P:=h
theorem zz65{P:Prop}(h:P:=by
 rcases(show k=0∨k=1∨k=2∨k=3∨k=4∨k=5∨k=6∨k=7∨k=8∨k=9 by omega)with rfl|rfl|rfl|rfl|rfl|rfl|rfl|rfl|rfl|rfl<;>rfl):P:=h
theorem zz66{P:Prop}(h:P:=by
 have:=Nat.two_pow_add_eq_or_of_lt (i:=8) (b:=c) (by omega) n;rw [show(2^8:Nat)=256 from rfl]at this;rw [this]):P:=h
theorem zz68{P:Prop}(h:P:=by
 rw [hx]at HB HD;go_wp2_with (go_at_call 112;refine HB.out.mono ?_;rintro e w1 ⟨rfl,hg⟩);exact⟨rfl,by rw [<-HQ.out,HD.out];exact⟨rfl,hg⟩⟩):P:=h
theorem zz67{P:Prop}(h:P:=by
 rw [hy]at HB1 HD;go_wp2_with (go_at_call 112;refine HB1.out.mono ?_;rintro e w2 ⟨rfl,hg2⟩);exact⟨rfl,by rw [<-HQ.out,HD.out];exact⟨rfl,zh hg hg2⟩⟩):P:=h
theorem zzq0:type_of% @Option.bind_some.{0,0}:=@Option.bind_some
theorem zz69{P:Prop}(h:P:=by
 exact absurd h (by simp)):P:=h
theorem zzX1:type_of% (And.intro @Option.some.injEq.{0} @Prod.mk.injEq.{0,0}):=And.intro @Option.some.injEq.{0} @Prod.mk.injEq.{0,0}
theorem zz70{P:Prop}(h:P:=by
 clear cc;go_wp2_with (go_at_call 112;refine HB1.out.mono ?_;rintro e w2 ⟨rfl,hr2,hg2⟩)
 all_goals go_wp2_with (go_at_call 90;refine(zcC _ _).mono ?_;rintro e w2 ⟨rfl,rfl⟩)
 all_goals exact⟨rfl,by rw [<-HQ.out,HD.out];exact⟨rfl,zh hg hg2⟩⟩):P:=h
theorem zz71{P:Prop}(h:P:=by
 clear c8 hU2;go_wp2_with (go_at_call 90;refine(zcC _ _).mono ?_;rintro e w4 ⟨rfl,rfl⟩);exact⟨rfl,by rw [<-HQ.out,HD.out];exact⟨rfl,HG2.out⟩⟩):P:=h
theorem zz72{P:Prop}(h:P:=by
 have:=ziw l (256*0+c.toNat);rw [Nat.mul_zero,Nat.zero_add]at this;show l.foldl (fun n c=>256*n+c.toNat) (256*0+c.toNat)=_;rw [Nat.mul_zero,Nat.zero_add];exact this):P:=h
abbrev zzO:=@Option.bind_eq_some_iff
theorem zz73{P:Prop}(h:P:=by
 obtain⟨h1,h2,h3,h4,h5,h6,h7,h8⟩:=zfy hz
 conv=>lhs;rw [zfh t]
 rw [hk,h4 (by omega),h5 (by omega),h6 (by omega),h7 (by omega),h8 (by omega)];rfl):P:=h
theorem zz74{P:Prop}(h:P:=by
 obtain⟨h1,h2,h3,h4,h5,h6,h7,h8⟩:=zfy hz
 conv=>lhs;rw [zfh t]
 rw [hk,h1 (by omega),h2 (by omega),h3 (by omega),h4 (by omega),h5 (by omega),h7 (by omega),h8 (by omega)];rfl):P:=h
theorem zz75{P:Prop}(h:P:=by
 split at h
 ·next c=>simp only [Option.some.injEq]at h;omega
 ·exact absurd h (by simp)):P:=h
theorem zz78{P:Prop}(h:P:=by
 exact⟨⟨zfE (by unfold I64;omega) (by unfold I64;omega) (by unfold I64;omega) (zzZ _) (zzZ _) (by unfold I64;omega) (zzZ _) (zzZ _) (by unfold I64;omega),no⟩,zzL _,hp,by omega⟩):P:=h
theorem zz77{P:Prop}(h:P:=by
 have e2:=zi7 H (ts:=y.1.1) (p':=y.1.2) (l':=y.2) hy hp (by omega);exact⟨⟨zfE (by unfold I64;omega) (by unfold I64;omega) (by unfold I64;omega) (zzZ _) (zzZ _) (by unfold I64;omega) (by unfold maxLen;omega) (zzZ _) (by unfold I64;omega),e2.1⟩,e2.2.2.1,e2.2.2.2.1,by omega⟩):P:=h
theorem zz79{P:Prop}(h:P:=by
 exact⟨⟨zfE (by unfold I64;omega) (by unfold I64;omega) (by unfold I64;omega) (zzZ _) (zzZ _) (by unfold I64;omega) (zzZ _) (by omega) (by unfold I64;omega),no⟩,zzL _,hp,by omega⟩):P:=h
theorem zz76{P:Prop}(h:P:=by
 have e3:=zcL (n:=z.1) (l2:=z.2) hz;have e4:=zcL (n:=q.1) (l2:=q.2) hq;exact⟨⟨zfE (by unfold I64;omega) (by unfold I64;omega) (by unfold I64;omega) (by unfold maxLen;omega) (zzZ _) (by unfold I64;omega) (zzZ _) (zzZ _) (by unfold I64;omega),no⟩,zzL _,hp,by omega⟩):P:=h
theorem zz80{P:Prop}(h:P:=by
 by_cases h:a<=n
 ·by_cases h':n<=b
  ·have E:=zzH (zeq h h')
   go_in;go_wp2;go_ret;exact⟨zr E.out.symm,rfl⟩
  ·have E:Hid (wi n a b=false):=zzH (zdN (by omega))
   go_in;go_wp2;go_ret;exact⟨zr E.out.symm,rfl⟩
 ·have E:Hid (wi n a b=false):=zzH (zdN (by omega))
  go_in;go_wp2;go_ret;exact⟨zr E.out.symm,rfl⟩):P:=h
theorem zz81{P:Prop}(h:P:=by
 go_in;go_wp2;go_ret;exact⟨zr E.out.symm,HB.out⟩):P:=h
theorem zz85{P:Prop}(h:P:=by
 go_in;go_wp2_with fail;go_ret;exact⟨zr E.out.symm,HB.out⟩):P:=h
theorem zz82{P:Prop}(h:P:=by
 have E:Hid (zbv u.lits.length ⟨1,an⟩=false):=zzH (zdN (n:=an) (by omega));go_in;go_wp2_with fail;go_ret;exact⟨zr E.out.symm,HB.out⟩):P:=h
theorem zz83{P:Prop}(h:P:=by
 have E:Hid (zbv u.lits.length ⟨2,an⟩=false):=zzH (zdN (n:=an) (by omega));go_in;go_wp2_with fail;go_ret;exact⟨zr E.out.symm,HB.out⟩):P:=h
theorem zz84{P:Prop}(h:P:=by
 have E:Hid (zbv u.lits.length ⟨3,an⟩=false):=zzH (zdN (n:=an) (by omega));go_in;go_wp2_with fail;go_ret;exact⟨zr E.out.symm,HB.out⟩):P:=h
theorem zz86{P:Prop}(h:P:=by
 exact⟨rfl,by rw [<-HQ.out,HD.out];exact⟨rfl,zb5 _ _⟩⟩):P:=h
theorem zz87{P:Prop}(h:P:=by
 obtain⟨xs0,ho0,-⟩:=hacc.own;exact ho0.lt):P:=h
theorem zzX5:type_of% (And.intro @Option.bind_some.{0,0} (And.intro @List.append_assoc.{0} (And.intro @List.cons_append.{0} @List.nil_append.{0}))):=And.intro @Option.bind_some.{0,0} (And.intro @List.append_assoc.{0} (And.intro @List.cons_append.{0} @List.nil_append.{0}))
theorem zz88{P:Prop}(h:P:=by
 have x:=heap_alloc_new w (.cells zo 47);go_in;go_upto_region 1 with fail;have hb:Below w.heap.size w (w.alloc (.cells zo 47)):=(zzR _ _).alloc (zzL _) _;unfold zo at x hb;generalize w.alloc _=w1 at *;obtain⟨x0,x1,x2,x3,x4,x5,x6,x7,x8,y0,y1,y2,y3,y4,y5,y6,y7,y8⟩:=zf x;go_wp2_with fail;refine bodyPost_ret (results_cell_row rfl _ _ w.heap.size _ _ _ _ rfl (zbG _ _ _ _ _ _ _ _ _ x) Tryz.underlying47 rfl (by kernel_rfl)) rfl ?_;exact⟨rfl,zb1 (zzL _) hb _ _ _ _ _ _ _ _ _⟩):P:=h
theorem zz90{P:Prop}(h:P:=by
 rw [h1]at H1 HD;go_wp2_with (go_at_call 119;refine H1.mono ?_;rintro e v1 ⟨rfl,hg1⟩);exact⟨rfl,by rw [<-HQ.out,HD.out];exact⟨rfl,zh S0.gr hg1⟩⟩):P:=h
theorem zz89{P:Prop}(h:P:=by
 rw [h3]at H3 HD;go_wp2_with (go_at_call 112;refine H3.mono ?_;rintro e v3 ⟨rfl,hg3⟩);exact⟨rfl,by rw [<-HQ.out,HD.out];exact⟨rfl,zh S2s.gr hg3⟩⟩):P:=h
theorem zz91{P:Prop}(h:P:=by
 exact⟨rfl,by rw [<-HQ.out,HD.out];exact⟨rfl,zh S3.gr hg4⟩⟩):P:=h
theorem zz92{P:Prop}(h:P:=by
 rw [h1]at H1 HD;go_wp2_with (go_at_call 112;refine H1.mono ?_;rintro e v1 ⟨rfl,hg1⟩);exact⟨rfl,by rw [<-HQ.out,HD.out];exact⟨rfl,zh S0.gr hg1⟩⟩):P:=h
theorem zz205{P:Prop}(h:P:=by
 exact⟨rfl,by rw [<-HQ.out,HD.out];exact⟨rfl,zh S0.gr hg1⟩⟩):P:=h
theorem zz93{P:Prop}(h:P:=by
 rw [h2]at H2 HD;go_wp2_with (go_at_call 116;refine H2.mono ?_;rintro e v2 ⟨rfl,hg2⟩);exact⟨rfl,by rw [<-HQ.out,HD.out];exact⟨rfl,zh S1.gr hg2⟩⟩):P:=h
theorem zz94{P:Prop}(h:P:=by
 rw [h2]at H2 HD;go_wp2_with (go_at_call 117;refine H2.mono ?_;rintro e v2 ⟨rfl,hg2⟩);exact⟨rfl,by rw [<-HQ.out,HD.out];exact⟨rfl,zh S1.gr hg2⟩⟩):P:=h
theorem zz95{P:Prop}(h:P:=by
 rw [h1]at H1 HD;go_wp2_with (go_at_call 114;refine H1.mono ?_;rintro e v1 ⟨rfl,hg1⟩);exact⟨rfl,by rw [<-HQ.out,HD.out];exact⟨rfl,zh S0.gr hg1⟩⟩):P:=h
theorem zz97{P:Prop}(h:P:=by
 exact⟨rfl,by rw [<-HQ.out,HD.out];exact⟨rfl,zh S1.gr hg2⟩⟩):P:=h
theorem zz96{P:Prop}(h:P:=by
 go_wp2_with (go_at_call 112;refine H2.mono ?_;rintro e v2 ⟨rfl,hr2,hg2⟩);go_wp2_with (go_at_call 90;refine(zcC _ _).mono ?_;rintro e d2 ⟨rfl,rfl⟩);exact⟨rfl,by rw [<-HQ.out,HD.out];exact⟨rfl,zh S1.gr hg2⟩⟩):P:=h
theorem zz98{P:Prop}(h:P:=by
 exact⟨rfl,by rw [<-HQ.out,HD.out];exact⟨rfl,zh S2.gr hg3⟩⟩):P:=h
theorem zz99{P:Prop}(h:P:=by
 clear cc;go_wp2_with (first|(go_at_call 90;refine(zbg _ _).mono ?_;rintro e d1 ⟨rfl,rfl⟩)|(go_at_call 113;refine(zhy _ _).mono ?_;rintro e t1 ⟨rfl,hb⟩;have S9:=S1.below hb;clear S1 hb;obtain⟨x0,x1,x2,x3,x4,x5,x6,x7,x8,y0,y1,y2,y3,y4,y5,y6,y7,y8⟩:=zf S9.x));refine bodyPost_ret (results_cell_row rfl _ _ w.heap.size _ _ _ _ rfl (zbG _ _ _ _ _ _ _ _ _ S9.x) Tryz.underlying47 rfl (by kernel_rfl)) rfl ?_;rw [<-HQ.out,HD.out];exact⟨⟨none,0,rfl,none,0,rfl,.inl rfl⟩,(S9.fin _ _ _ _ _ _ _ _ _).1,(S9.fin _ _ _ _ _ _ _ _ _).2⟩):P:=h
theorem zz102{P:Prop}(h:P:=by
 rw [if_pos c]at h;obtain⟨x,hx,h⟩:=zzO.1 h;simp only [zzX1]at h;obtain⟨⟨rfl,rfl⟩,rfl⟩:=h;rfl):P:=h
theorem zz104{P:Prop}(h:P:=by
 simp only [zzX1]at h;obtain⟨⟨rfl,rfl⟩,rfl⟩:=h;rfl):P:=h
theorem zz101{P:Prop}(h:P:=by
 rw [if_pos c]at h;obtain⟨x,hx,h⟩:=zzO.1 h;obtain⟨y,hy,h⟩:=zzO.1 h;simp only [zzX1]at h;obtain⟨⟨rfl,rfl⟩,rfl⟩:=h;rfl):P:=h
theorem zz100{P:Prop}(h:P:=by
 rw [if_pos c]at h;obtain⟨x,hx,h⟩:=zzO.1 h;obtain⟨y,hy,h⟩:=zzO.1 h;simp only [zzX1]at h;obtain⟨⟨rfl,rfl⟩,rfl⟩:=h;exact zkc H hy):P:=h
theorem zz103{P:Prop}(h:P:=by
 obtain⟨q,hq,h⟩:=zzO.1 h;simp only [zzX1]at h;obtain⟨⟨rfl,rfl⟩,rfl⟩:=h;rfl):P:=h
theorem zz107{P:Prop}(h:P:=by
 have h0:s=⟨#[]⟩:=ByteArray.ext (Array.ext' hl);subst h0;have x:=heap_alloc_new w (.cells zo 47);go_in;go_upto_region 1 with fail;have hb:Below w.heap.size w (w.alloc (.cells zo 47)):=(zzR _ _).alloc (zzL _) _;unfold zo at x hb;generalize w.alloc _=w1 at *;obtain⟨x0,x1,x2,x3,x4,x5,x6,x7,x8,y0,y1,y2,y3,y4,y5,y6,y7,y8⟩:=zf x;go_wp2_with fail;refine bodyPost_ret (zbb rfl _ _ _ w.heap.size _ _ _ _ rfl (zbG _ _ _ _ _ _ _ _ _ x) Tryz.underlying47 (by kernel_rfl)) rfl ?_;rw [<-HQ.out];exact⟨rfl,zb1 (zzL _) hb _ _ _ _ _ _ _ _ _⟩):P:=h
theorem zz110{P:Prop}(h:P:=by
 have h1:s.data.toList[0]?=some c:=by rw [hl];rfl
 rw [Array.getElem?_toList,Array.getElem?_eq_getElem (show 0<s.data.size from hsz)]at h1;exact Option.some.inj h1):P:=h
theorem zz108{P:Prop}(h:P:=by
 have HD:Hid (zcr s.data.toList=none):=zzH (by rw [hl];exact if_neg c1);have hnc:((s[0].toNat:Int)!=131)=true:=by rw [hc0,bne_iff_ne];omega
 have hnd: ¬(s[0].toNat:Int)=131:=by rw [hc0];omega
 clear hc0 hcl c1;obtain⟨x0,x1,x2,x3,x4,x5,x6,x7,x8,y0,y1,y2,y3,y4,y5,y6,y7,y8⟩:=zf x;go_wp2_with fail;go_wp2_with fail;refine bodyPost_ret (zbb rfl _ _ _ w.heap.size _ _ _ _ rfl (zbG _ _ _ _ _ _ _ _ _ x) Tryz.underlying47 (by kernel_rfl)) rfl ?_;rw [<-HQ.out];refine⟨by rw [HD.out];exact rfl,zb1 (zzL _) hb _ _ _ _ _ _ _ _ _⟩):P:=h
theorem zz106{P:Prop}(h:P:=by
 have hB3:=(zzR w2.heap.size w2).alloc (zzL _) (.cells #[.int .i64 0,.int .i64 0,.int .i64 0,.string ⟨#[]⟩,.string ⟨#[]⟩,.int .i64 0,.slice none 0 0,.string ⟨#[]⟩,.int .i64 0] 47);have hY3:=heap_alloc_new w2 (.cells #[.int .i64 0,.int .i64 0,.int .i64 0,.string ⟨#[]⟩,.string ⟨#[]⟩,.int .i64 0,.slice none 0 0,.string ⟨#[]⟩,.int .i64 0] 47);have hlw:=zc x;have hx3:=(hB3.block _ (zzW hlw hb2.size)).trans ((hb2.block _ hlw).trans x);have hbw:=(hb.trans (hb2.mono (Nat.le_of_lt hlw))).trans (hB3.mono (zzY (Nat.le_of_lt hlw) hb2.size));have hne2:w.heap.size<w2.heap.size:=zzW hlw hb2.size;clear hB3 x hb hb2 hT;generalize w2.alloc _=w3 at *;generalize w2.heap.size=Y at *;obtain⟨x0,x1,x2,x3,x4,x5,x6,x7,x8,y0,y1,y2,y3,y4,y5,y6,y7,y8⟩:=zf hx3;go_wp2_with fail;refine bodyPost_ret (zbb rfl _ _ _ w.heap.size _ _ _ _ rfl (zbG _ _ _ _ _ _ _ _ _ hx3) Tryz.underlying47 (by kernel_rfl)) rfl ?_;rw [<-HQ.out];refine⟨by rw [HD.out];exact rfl,zb1 (zzL _) hbw _ _ _ _ _ _ _ _ _⟩):P:=h
theorem zz109{P:Prop}(h:P:=by
 have hle:l.length<=maxLen:=by have:=congrArg List.length hl;rw [Array.length_toList]at this;have h3:s.data.size=s.size:=rfl;rw [zzq13]at this;unfold maxLen;omega
 have:=(zh4 hw hle);omega):P:=h
theorem zz105{P:Prop}(h:P:=by
 have hB3:=(zzR w2.heap.size w2).alloc (zzL _) (.cells #[.int .i64 t.kind,.int .i64 t.int,.int .i64 t.gen,.string t.name,.string t.func,.int .i64 t.arity,.slice so t.items.length c2,.string t.bytes,.int .i64 t.bits] 47);have hY3:=heap_alloc_new w2 (.cells #[.int .i64 t.kind,.int .i64 t.int,.int .i64 t.gen,.string t.name,.string t.func,.int .i64 t.arity,.slice so t.items.length c2,.string t.bytes,.int .i64 t.bits] 47);have hlw:=zc x;have hx3:=(hB3.block _ (zzW hlw hb2.size)).trans ((hb2.block _ hlw).trans x);have hbw:=(hb.trans (hb2.mono (Nat.le_of_lt hlw))).trans (hB3.mono (zzY (Nat.le_of_lt hlw) hb2.size));have hsl:=htm.sl.new hB3;have hw1:w.heap.size<=w1.heap.size:=Nat.le_of_lt hlw;clear htm;have hne2:w.heap.size<w2.heap.size:=zzW hlw hb2.size;clear hB3 x hb hb2 hT;generalize w2.alloc _=w3 at *;generalize w2.heap.size=Y at *;obtain⟨x0,x1,x2,x3,x4,x5,x6,x7,x8,y0,y1,y2,y3,y4,y5,y6,y7,y8⟩:=zf hx3;by_cases c3:l2= []
 case neg=>
  have HD:Hid (zcr s.data.toList=none):=zzH (by rw [HWG.out];exact if_neg c3);have hlp:0<l2.length:=List.length_pos_iff.2 c3;have hq1: ¬((s.size-1:Nat):Int)-(l2.length:Int)=(s.size:Int)-1:=by omega
  have hq2:(((s.size-1:Nat):Int)-(l2.length:Int)!=(s.size:Int)-1)=true:=by rw [bne_iff_ne];exact hq1
  have hw3:IntKind.i64.wrap ((s.size:Int)-1)=(s.size:Int)-1:=by rw [zzq3];omega
  clear hlp c3 HWG hll;generalize((s.size-1:Nat):Int)-(l2.length:Int)=nv at *;go_wp2_with fail;refine bodyPost_ret (zbb rfl _ _ _ w.heap.size _ _ _ _ rfl (zbG _ _ _ _ _ _ _ _ _ hx3) Tryz.underlying47 (by kernel_rfl)) rfl ?_;rw [<-HQ.out];exact⟨by rw [HD.out];exact rfl,zb1 (zzL _) hbw _ _ _ _ _ _ _ _ _⟩
 subst c3;have HD:Hid (zcr s.data.toList=some t):=HWG;have hq1:((s.size-1:Nat):Int)-(([]:List UInt8).length:Int)=(s.size:Int)-1:=by simp;omega
 have hw3:IntKind.i64.wrap ((s.size:Int)-1)=(s.size:Int)-1:=by rw [zzq3];omega
 rw [hq1];clear hq1 HWG hll;obtain⟨q0,q1,q2,q3,q4,q5,q6,q7,q8,z0,z1,z2,z3,z4,z5,z6,z7,z8⟩:=zf hY3;go_wp2_with fail;refine bodyPost_ret (zbb rfl _ _ _ w.heap.size _ _ _ _ rfl (zbG _ _ _ _ _ _ _ _ _ hx3) Tryz.underlying47 (by kernel_rfl)) rfl ?_;rw [<-HQ.out];refine⟨?_,zb1 (zzL _) hbw _ _ _ _ _ _ _ _ _⟩;rw [HD.out];exact⟨so,c2,rfl,so,c2,rfl,hsl.off (OffB.nine _ _ _ _ _ _ _ _ _ _ _) hlw hw1⟩):P:=h
theorem zz112{P:Prop}(h:P:=by
 rw [ByteArray.data_extract,Array.toList_extract,List.extract_eq_take_drop,hl,List.take_of_length_le (by rw [List.length_drop];omega)]):P:=h
theorem zz111{P:Prop}(h:P:=by
 clear c2 c3;generalize acc+128^i*c=nn at *;go_wp2_with fail;rw [<-HQ.out,HD.out];exact⟨rfl,⟨_,zzS w r 0 _ _ _ hr,HX.out,HSX.out⟩,zG _ _ _ _⟩):P:=h
theorem zz113{P:Prop}(h:P:=by
 rw [h1]at HN HD;go_wp2_with (go_at_call 12;refine HN.mono ?_;rintro e w1 ⟨rfl,hg1⟩);exact⟨rfl,by rw [<-HQ.out,HD.out];exact⟨rfl,hg1⟩⟩):P:=h
theorem zz114{P:Prop}(h:P:=by
 obtain⟨ao,cap,rfl,hsl⟩:=hacc.sl;have HS:=zzH hsl;clear hsl;go_wp2_with fail;rw [<-HQ.out,HI.out];exact⟨⟨_,_,by rw [List.append_nil],by rw [List.append_nil];exact HS.out⟩,hrd,hg⟩):P:=h
theorem zz116{P:Prop}(h:P:=by
 exact⟨rfl,by rw [<-HQ.out,HI.out,zdH,h2];exact⟨rfl,zh hg hg2⟩⟩):P:=h
theorem zz115{P:Prop}(h:P:=by
 obtain⟨s,h1,h2⟩:=hr2.below hb1;exact⟨s,(hg3.block r (zc h1) fun e=>by have:=(ho0 r e.symm).1;omega).trans h1,h2⟩):P:=h
theorem zz118{P:Prop}(h:P:=by
 rw [h1]at H1;rw [show zbx l=(vD l).bind fun x=>some ((x.1:Int),x.2)from rfl,h1]at HD;go_wp2_with (go_at_call 12;refine H1.mono ?_;rintro e v1 ⟨rfl,hg1⟩);exact⟨rfl,by rw [<-HQ.out,HD.out];exact⟨rfl,zh S0.gr hg1⟩⟩):P:=h
theorem zz117{P:Prop}(h:P:=by
 rw [h2]at H2;rw [show zbx l1=(vD l1).bind fun x=>some ((x.1:Int),x.2)from rfl,h2]at HD;go_wp2_with (go_at_call 12;refine H2.mono ?_;rintro e v2 ⟨rfl,hg2⟩);exact⟨rfl,by rw [<-HQ.out,HD.out];exact⟨rfl,zh S1.gr hg2⟩⟩):P:=h
theorem zz119{P:Prop}(h:P:=by
 rw [h1]at H1 HD;go_wp2_with (go_at_call 11;refine H1.mono ?_;rintro e v1 ⟨rfl,hg1⟩);exact⟨rfl,by rw [<-HQ.out,HD.out];exact⟨rfl,zh S0.gr hg1⟩⟩):P:=h
theorem zz124{P:Prop}(h:P:=by
 exact⟨rfl,by rw [<-HQ.out,HD.out];exact⟨rfl,zh S.gr hg5⟩⟩):P:=h
theorem zz122{P:Prop}(h:P:=by
 rw [zhk,zzq0]at HD;go_wp2_with fail;go_meet
 case rel=>exact⟨[],_,HD,HS⟩):P:=h
theorem zz123{P:Prop}(h:P:=by
 rw [zhk,zzq0]at HD;go_wp2_with fail;go_meet
 case rel=>exact⟨0,_,HD,HS⟩):P:=h
theorem zz121{P:Prop}(h:P:=by
 rw [h2]at H;rw [show zbx l=(vD l).bind fun x=>some ((x.1:Int),x.2)from rfl,h2]at HD;go_wp2_with (go_at_call 12;refine H.mono ?_;rintro e v5 ⟨rfl,hg5⟩);exact⟨rfl,by rw [<-HQ.out,HD.out];exact⟨rfl,zh S.gr hg5⟩⟩):P:=h
theorem zz120{P:Prop}(h:P:=by
 refine wpList_nil ?_;refine hK _ _ ?_;refine wp_ret ?_;have hx:=HX.out;have S:=HSS.out;obtain⟨s1,s2,s3,hXB⟩:=HC.out;refine bodyPost_ret (results_cell_row rfl _ _ w.heap.size _ _ _ _ rfl (setRow_heap _ _ _ _ _ _ hx) Tryz.underlying64 rfl (by kernel_rfl)) rfl ?_;rw [<-HQ.out,HD.out];have ho:OffB w.heap.size wc (wc.setRow w.heap.size #[.int .i64 op,.int .i64 d.kind,.int .i64 d.n,.slice so ss.length sc,.int .i64 tg,.int .i64 n,.int .i64 lv,.string nm,.slice co cs.length cc,.slice go gs.length gc]):=⟨by simp,fun b hb=>setRow_other _ _ _ _ hb⟩;have hk: ∀b,B<=b->b<wc.heap.size->(wc.setRow w.heap.size #[.int .i64 op,.int .i64 d.kind,.int .i64 d.n,.slice so ss.length sc,.int .i64 tg,.int .i64 n,.int .i64 lv,.string nm,.slice co cs.length cc,.slice go gs.length gc]).heap[b]?=wc.heap[b]?:=fun b hb _=>ho.2 b (by omega)
 have hP: ∀b,B<=b->b<wc.heap.size->w.heap.size<=b:=fun b hb _=>by omega
 have hrne:r≠w.heap.size:=by have:=S.hr;omega
 exact⟨⟨so,sc,co,cc,go,gc,rfl,so,sc,co,cc,go,gc,rfl,s1.kept ho.1 hk hP fun _ _ h=>h,s2.kept ho.1 hk hP fun _ _ h=>h,s3.kept ho.1 hk hP fun _ _ h=>h⟩,S.rd.off ho hrne,zC S.gr (below_setRow (zzR _ _) (zzL _) _)⟩):P:=h
theorem zz128{P:Prop}(h:P:=by
 have E:Hid (zB s=false):=zzH (zf1 (by omega));go_in;go_wp2_with fail;go_ret;exact⟨zr E.out.symm,rfl⟩):P:=h
theorem zz127{P:Prop}(h:P:=by
 have E:Hid (zB s=false):=zzH (HB.out (by rw [HZ.out];exact zzD (by omega)));go_in;go_wp2_with fail;go_ret;exact⟨zr E.out.symm,rfl⟩):P:=h
theorem zz126{P:Prop}(h:P:=by
 have e4:decide ((48:Int)<=(b:Int))=true:=zzT (by omega);have e5:decide ((b:Int)<=57)=false:=zzD (by omega);have e6:((b:Int)!=95)=true:=by rw [bne_iff_ne];omega
 have e7:((b:Int)!=64)=true:=by rw [bne_iff_ne];omega
 have HN2:=zzH (HN.out (by rw [HP.out];exact zzT (by omega)));clear hc HP HBK HN;go_wp2_with fail;go_round
 case rel=>exact⟨k+1,by omega,by omega,by go_num,HN2⟩
 case measure=>simp [intOf];omega):P:=h
theorem zz207{P:Prop}(h:P:=by
 have e7:((b:Int)!=64)=true:=by rw [bne_iff_ne];omega
 have HN2:=zzH (HN.out (by rw [HP.out];exact zzT (by omega)));clear hc HP HBK HN;go_wp2_with fail;go_round
 case rel=>exact⟨k+1,by omega,by omega,by go_num,HN2⟩
 case measure=>simp [intOf];omega):P:=h
theorem zz125{P:Prop}(h:P:=by
 have e2:decide ((65:Int)<=(b:Int))=true:=zzT (by omega);have e3:decide ((b:Int)<=90)=false:=zzD (by omega);have e4:decide ((48:Int)<=(b:Int))=true:=zzT (by omega);have e5:decide ((b:Int)<=57)=false:=zzD (by omega);have e6:((b:Int)!=95)=true:=by rw [bne_iff_ne];omega
 have e7:((b:Int)!=64)=true:=by rw [bne_iff_ne];omega
 have E:Hid (zB s=false):=zzH (HBK.out (by rw [HP.out];exact zzD (by omega)));clear hc HP HBK HN;go_wp2_with fail;go_ret;exact⟨zr E.out.symm,rfl⟩):P:=h
theorem zz206{P:Prop}(h:P:=by
 have e6:((b:Int)!=95)=true:=by rw [bne_iff_ne];omega
 have e7:((b:Int)!=64)=true:=by rw [bne_iff_ne];omega
 have E:Hid (zB s=false):=zzH (HBK.out (by rw [HP.out];exact zzD (by omega)));clear hc HP HBK HN;go_wp2_with fail;go_ret;exact⟨zr E.out.symm,rfl⟩):P:=h
theorem zz129{P:Prop}(h:P:=by
 go_wp2_with fail;go_ret;exact⟨zr E.out.symm,rfl⟩):P:=h
theorem zz130{P:Prop}(h:P:=by
 have E:Hid (r=true):=zzH (by rw [HQ.out];rfl);go_in;go_wp2_with fail;go_ret;exact⟨zr E.out.symm,rfl⟩):P:=h
theorem zz131{P:Prop}(h:P:=by
 go_in;go_wp2_with (first|(go_at_call 96;refine(zkQ _ _ _ _ (by decide)).mono ?_;rintro e w1 ⟨rfl,hb1⟩;have hk:=zkd hb1)|(refine wpList_store_row rfl 133 _ _ rfl _ _ rfl rfl 133 _ hk (by kernel_rfl) rfl (RRow.one _) ?_));go_wp2_with fail;refine bodyPost_ret (zbb rfl _ _ _ w.heap.size _ _ _ _ rfl (setRow_heap _ _ _ _ _ _ hk) Tryz.underlying133 (by kernel_rfl)) rfl ?_;exact⟨rfl,below_setRow (((zzR _ _).alloc (zzL _) _).trans (hb1.mono (by simp))) (zzL _) _⟩):P:=h
theorem zz132{P:Prop}(h:P:=by
 go_in;go_wp2_with fail;refine bodyPost_ret (zbb rfl _ _ _ w.heap.size _ _ _ _ rfl (heap_alloc_new _ _) Tryz.underlying133 (by kernel_rfl)) rfl ?_;exact⟨rfl,(zzR _ _).alloc (zzL _) _⟩):P:=h
theorem zz137{P:Prop}(h:P:=by
 rw [zhd]at HD;go_wp2_with fail;go_meet
 case rel=>exact⟨[],_,HD,HS⟩):P:=h
theorem zz134{P:Prop}(h:P:=by
 go_wp2_with fail;go_meet
 case rel=>exact⟨ts,σ,HX,zzH ⟨vs,v,vg,S,HO.out.1.bare,⟨HA.out.lies,HN.out⟩,HO.out.2.bare⟩⟩):P:=h
theorem zz136{P:Prop}(h:P:=by
 have e:g=k:=Option.some.inj e;subst e;exact hat.imp id fun h=>Nat.le_of_eq h.symm):P:=h
theorem zz135{P:Prop}(h:P:=by
 go_wp2_with fail;go_meet
 case rel=>exact⟨ts,σ,HX,zzH ⟨vs,vc,v,S,HO.out.1.bare,HO.out.2.bare,⟨HA.out.lies,HN.out⟩⟩⟩):P:=h
theorem zz133{P:Prop}(h:P:=by
 have hway:zb=true∨zb=false/\1<a3/\ob=false∨zb=false/\ ¬1<a3/\ob=true:=by
  have:=HOB.out
  cases zb with
  |true=>exact .inl rfl
  |false=>
   by_cases e:1<a3
   ·exact .inr (.inl ⟨rfl,e,by rw [<-this];exact zzD (by omega)⟩)
   ·exact .inr (.inr ⟨rfl,e,by rw [<-this];exact zzT (by omega)⟩)
 rcases hway with e|⟨e,e1,e2⟩|⟨e,e1,e2⟩
 ·subst e
  go_wp2_with fail;go_meet
  case rel=>exact zzH (HX5.out true)
 ·subst e e2
  have d1:decide ((1:Int)<(a3:Int))=true:=zzT (by omega);go_wp2_with fail;go_meet
  case rel=>exact zzH (HX5.out true)
 ·subst e e2
  have d1:decide ((1:Int)<(a3:Int))=false:=zzD (by omega);go_wp2_with fail;go_meet
  case rel=>exact zzH (HX5.out false)):P:=h
theorem zz138{P:Prop}(h:P:=by
 rw [zhd]at HD;go_wp2_with fail;go_meet
 case rel=>exact⟨0,_,HD,HS⟩):P:=h
theorem zz139{P:Prop}(h:P:=by
 go_wp2_with fail;go_meet
 case rel=>exact⟨ts,σ,HX,zzH ⟨v,vc,vg,S,⟨HA.out.lies,HN.out⟩,HO.out.1.bare,HO.out.2.bare⟩⟩):P:=h
theorem zz141{P:Prop}(h:P:=by
 refine leaves_cons (f:=10) (args:=#[.pointer (some ⟨X,0,none⟩),.pointer (some ⟨X+1,0,none⟩)]) (by simp) (by simp [go_sem]) ?_;refine(zgS X _ _ _ _ _ _ _ [] _ (hO.grown hg5)).mono ?_;rintro e u' w'' ⟨rfl,rfl,hO9,hB9⟩;simp only [settle,List.dropWhile_nil];refine⟨_,zea rfl _ _ _ X _ _ _ rfl rfl hO9 Tryz.underlying28 (by kernel_rfl) (zds hO9.e),?_⟩;rw [<-HQ.out];refine⟨by rw [HN.out],?_⟩;rw [HX.out];exact Below.trans (zct S.bel hg5 (by omega) (by omega)) hB9):P:=h
theorem zz142{P:Prop}(h:P:=by
 have h2:=zf5 2000 t h1.2;have h3:=h1.1;unfold zD at h3;rw [Bool.and_eq_true,decide_eq_true_eq]at h3;have h4:=zep 2000 t h3.1;omega):P:=h
theorem zz140{P:Prop}(h:P:=by
 have hO10:=hO9.six (.string ⟨#[]⟩) (.int .i64 0) (.slice none 0 0) (.slice none 0 0) (.slice none 0 0) (.slice none 0 0) (.int .i64 6);have hB10:Below X w _:=(zgP hB9 (.string ⟨#[]⟩) (.int .i64 0) (.slice none 0 0) (.slice none 0 0) (.slice none 0 0) (.slice none 0 0)).setCell (p:=⟨X+1,0,none⟩) (show X<=X+1 by omega) (.int .i64 6);go_wp2_with fail;clear q0 q1 q2 q3 q4 q5 z0 z1 z2 z3 z4 z5 k1 f1 hO9 hB9;generalize World.setCell _ ⟨X+1,0,none⟩ _=w10 at *;refine leaves_cons (f:=10) (args:=#[.pointer (some ⟨X,0,none⟩),.pointer (some ⟨X+1,0,none⟩)]) (by simp) (by simp [go_sem]) ?_;refine(zjV _ _ _).mono ?_;rintro e u' w'' ⟨rfl,rfl,rfl⟩;simp only [settle];refine⟨_,zea rfl _ _ _ X _ _ _ rfl rfl hO10 Tryz.underlying28 (by kernel_rfl) (zds hO10.e),?_⟩;rw [<-HQ.out];exact⟨by rw [HN.out];exact rfl,by rw [HX.out];exact hB10⟩):P:=h
theorem zz143{P:Prop}(h:P:=by
 go_in;go_wp2_with fail;go_quiet (fail);go_wp2_with fail;rw [<-HQ.out,HT.out];exact⟨rfl,⟨a,zzS _ r 3 _ _ _ HR.out,ha,hal,hs⟩,zh (zdm (zb5 w (some r)) _) (zG _ r 3 _)⟩):P:=h
theorem zz144{P:Prop}(h:P:=by
 go_upto_region 6 with fail;clear c0 c1 c2 c3 f1 f2 f3 hlt3;generalize w3.setCell _ _=w4 at *;obtain⟨a1,c0,c1,c2,c3,f1,f2,f3⟩:=HF.out.cells;have hlt3:=HF.out.lt;rw [show τ3.fail.bad=true from rfl]at c3;go_wp2_with fail;go_loop [6,7] (fun u i=>u= .int .u64 0/\i= .int .i64 ((b.size:Int)-1)) (fun _ _=>0)
 case atStart=>exact⟨rfl,rfl⟩
 case round=>
  obtain⟨rfl,rfl⟩:=hrel
  cases hz:decide ((b.size:Int)-1≥0)with
  |true=>
   go_wp2_with fail
   all_goals
    rw [<-HQ.out,HN.out,HE.out];exact⟨rfl,HF.out,HG4.out⟩
  |false=>
   go_wp2_with fail
   all_goals
    rw [<-HQ.out,HN.out,HE.out];exact⟨rfl,HF.out,HG4.out⟩):P:=h
theorem zz145{P:Prop}(h:P:=by
 exact⟨⟨_,_,by show _=Ending.returned (.slice ao (ts++ []).length cap);rw [List.append_nil],by show SlIn _ _ _ _ ao (ts++ []);rw [List.append_nil];exact HS.out⟩,hrd,hg⟩):P:=h
theorem zz146{P:Prop}(h:P:=by
 exact⟨by show((1:Nat):Int)+ -1<=σ.left;omega,by show(-1:Int)<= -1;omega,fun h=>by cases h⟩):P:=h
theorem zz147{P:Prop}(h:P:=by
 clear S2;generalize World.setCell _ _ _=v3 at *;obtain⟨q0,q1,q2,q3,q4,q5,q6,q7,q8,z0,z1,z2,z3,z4,z5,z6,z7,z8⟩:=zf S3.y;obtain⟨x0,x1,x2,x3,x4,x5,x6,x7,x8,y0,y1,y2,y3,y4,y5,y6,y7,y8⟩:=zf S3.x;have hly:=zc S3.y;have hlx:=zc S3.x;have HX:=zzH S3.hX;go_wp2_with fail;refine bodyPost_ret (results_cell_row rfl _ _ X _ _ _ _ rfl (zbG _ _ _ _ _ _ _ _ _ S3.x) Tryz.underlying47 rfl (by kernel_rfl)) rfl ?_;rw [<-HQ.out,HD.out,HS.out];exact⟨⟨none,0,rfl,none,0,rfl,.inl rfl⟩,(S3.fin _ _ _ _ _ _ _ _ _).1,(S3.fin _ _ _ _ _ _ _ _ _).2⟩):P:=h
theorem zz148{P:Prop}(h:P:=by
 rw [if_pos c];exact zdE (by decide) (zir (n4 _)) (g4 _) (zeQ _) e a0 l0 e2 b0 (zdt f)):P:=h
theorem zz150{P:Prop}(h:P:=by
 go_in;go_wp2_with fail;refine HC.out.mono ?_;rintro e w1 ⟨v,rfl,ho1,hb1⟩;have HB1:Hid (Below w.heap.size w w1):=zzH (HB.out.trans (hb1.mono (by simp)));have HO1:=zzH (zip HO.out hb1);obtain⟨g,cap,cur,rfl,hg1,hg2,hg3⟩:=zbH ho1 (by intro e;have:=congrArg List.length e;rw [zk]at this;cases this);have HN:=zzH (zbM hg2 hg3);have hl4:=zk 4 n;rw [hl4];have HLE:Hid ((beN 4 n).length=4):=zzH hl4;have hsz:w.heap.size<=w1.heap.size:=HB1.out.size;clear ho1 hb1 hg1 hg2 hg3 hl4;go_wp2_with (at_builtin;refine wpList_append_own_at _ rfl (.tmp 21) (.tmp 23) 74 rfl w.heap.size 5 i0 (.int .u8 0) 1 1 Tryz.underlying74 hi hz0 hz1 hz2 rfl (by decide) _ 1 (zy [98]) rfl HO1.out ⟨g,0,none⟩ 4 cap (zy (beN 4 n)) rfl (by rw [zbr,HLE.out]) HN.out (zbC _) (by unfold maxLen;omega) (by omega) hsz ?_);intro v' w2 hown' hgrow hnil hloc;have HF:Hid (w2.ownsRow w.heap.size 5 1 v' E.length (zy E)/\Below w.heap.size w w2):=zzH ⟨by rw [HE.out];show World.ownsRow _ _ _ _ _ ((beN 4 n).length+1) _;rw [HLE.out];exact hown',HB1.out.grown hgrow hsz (fun k hk=>(HO1.out.lt k hk).1)⟩;clear hown' hgrow hnil hloc;go_wp2_with fail;go_ret;exact⟨_,rfl,HF.out⟩):P:=h
theorem zz149{P:Prop}(h:P:=by
 cases f with
 |zero=>exact absurd hm (by simp;omega)
 |succ f=>
  have HV2:Hid (A=(xs++ [UInt8.ofNat m])++leN f (m/256)):=zzH (by
    rw [HV.out];conv=>lhs;rw [leN,if_neg (by omega)]
    simp)
  have HBY:Hid ((m:Int)%256=((UInt8.ofNat m).toNat:Int)):=zzH (zru m);have hgt:decide ((0:Int)<(m:Int))=true:=zzT (by omega);go_wp2_with (at_builtin;refine wpList_append_own_at _ rfl (.tmp 33) (.tmp 37) 74 rfl w.heap.size 5 i0 (.int .u8 0) 1 1 Tryz.underlying74 hi hz0 hz1 hz2 rfl (by decide) _ xs.length (zy xs) rfl (hown.alloc _) ⟨wr.heap.size,0,none⟩ 1 1 [.int .u8 ((m:Int)%256)] rfl rfl (cell_one_new _ _ _) (ints_oneCell .u8 [(m:Int)%256]) (by unfold maxLen;omega) (by omega) (by simp;omega) ?_);intro v' w1 hown' hgrow hnil hloc;rw [HBY.out]at hown';have hB1:Below w.heap.size w w1:=(hB.alloc hsz0 _).grown hgrow (by simp;omega) (fun k hk=>(hown.lt k hk).1);have HO1:Hid (w1.ownsRow w.heap.size 5 1 v' (xs++ [UInt8.ofNat m]).length (zy (xs++ [UInt8.ofNat m]))):=zzH (by rw [zeJ,zzq1];exact hown');clear hown' hgrow hnil hloc hown HO;go_wp2_with fail;go_roundw
  case rel=>exact⟨m/256,f,_,by go_num,by rw [Nat.pow_succ]at hm;omega,by omega,by rw [zzq1,List.length_singleton];omega,HV2,HO1,hB1⟩
  case measure=>simp [intOf];omega):P:=h
theorem zz151{P:Prop}(h:P:=by
 have h9:leN 8 n.natAbs= []:=HAA.out.trans (HV2.out.trans e);rw [show(8:Nat)=7+1 by rfl,leN,if_neg (by omega)]at h9
 cases h9):P:=h
theorem zz154{P:Prop}(h:P:=by
 go_in;go_wp2_with fail;refine bodyPost_ret (results_cell_row rfl _ _ (w.heap.size+1) _ _ _ _ rfl HN.out Tryz.underlying47 rfl (by kernel_rfl)) rfl ?_;exact⟨so,c,rfl,HB.out⟩):P:=h
theorem zz152{P:Prop}(h:P:=by
 have HN:=zzH (zdq w (.cells #[.int .i64 0,.int .i64 0,.int .i64 0,.string ⟨#[]⟩,.string tf,.int .i64 ta,.slice so tl.length c,.string ty,.int .i64 tz] 47) (.cells #[.int .i64 0,.int .i64 0,.int .i64 0,.string ⟨#[]⟩,.string tf,.int .i64 ta,.slice so tl.length c,.string ty,.int .i64 tz] 47));have HB:Hid (Below w.heap.size w ((w.alloc (.cells #[.int .i64 0,.int .i64 0,.int .i64 0,.string ⟨#[]⟩,.string tf,.int .i64 ta,.slice so tl.length c,.string ty,.int .i64 tz] 47)).alloc (.cells #[.int .i64 0,.int .i64 0,.int .i64 0,.string ⟨#[]⟩,.string tf,.int .i64 ta,.slice so tl.length c,.string ty,.int .i64 tz] 47))):=zzH (((zzR _ _).alloc (zzL _) _).alloc (by simp) _);go_in;go_wp2_with fail;refine bodyPost_ret (results_cell_row rfl _ _ (w.heap.size+1) _ _ _ _ rfl HN.out Tryz.underlying47 rfl (by kernel_rfl)) rfl ?_;exact⟨so,c,rfl,HB.out⟩):P:=h
theorem zz153{P:Prop}(h:P:=by
 have HN:=zzH (zdq w (.cells #[.int .i64 0,.int .i64 ti,.int .i64 tg,.string tn,.string tf,.int .i64 ta,.slice none 0 0,.string ty,.int .i64 tz] 47) (.cells #[.int .i64 0,.int .i64 ti,.int .i64 tg,.string tn,.string tf,.int .i64 ta,.slice none 0 0,.string ty,.int .i64 tz] 47));have HB:Hid (Below w.heap.size w ((w.alloc (.cells #[.int .i64 0,.int .i64 ti,.int .i64 tg,.string tn,.string tf,.int .i64 ta,.slice none 0 0,.string ty,.int .i64 tz] 47)).alloc (.cells #[.int .i64 0,.int .i64 ti,.int .i64 tg,.string tn,.string tf,.int .i64 ta,.slice none 0 0,.string ty,.int .i64 tz] 47))):=zzH (((zzR _ _).alloc (zzL _) _).alloc (by simp) _);go_in;go_wp2_with fail;refine bodyPost_ret (results_cell_row rfl _ _ (w.heap.size+1) _ _ _ _ rfl HN.out Tryz.underlying47 rfl (by kernel_rfl)) rfl ?_;exact⟨none,0,rfl,HB.out⟩):P:=h
theorem zz155{P:Prop}(h:P:=by
 have E:Hid (zcz y z=false):=zzH (by unfold zcz;rw [zdN (by omega)];rfl);go_in;go_wp2_with fail;go_ret;exact⟨zr E.out.symm,HB.out⟩):P:=h
theorem zz157{P:Prop}(h:P:=by
 unfold zj at hform;rw [Bool.and_eq_true]at hform;have:=hform.1;unfold zcH at this;rw [Bool.and_eq_true]at this;exact zlv this.1):P:=h
theorem zz158{P:Prop}(h:P:=by
 have:300+t.items.length<=zR (f+1) t:=by show 300+t.items.length<=300+t.items.length+zcw (t.items.map (zR f));omega
 omega):P:=h
theorem zz159{P:Prop}(h:P:=by
 have:((300+t.items.length+zcw (t.items.map (zR f)):Nat):Int)<=1152921504606846976:=hcap;omega):P:=h
theorem zz156{P:Prop}(h:P:=by
 obtain⟨k,s,hk,rfl,rfl,HK,hs0,hs1,HBk⟩:=hrel;rename World=>wr
 clear c0 c6 c8;have hb1:=(HBk.out.block B (zc HBX.out)).trans HBX.out;have hlb1:=zc hb1;have c6:wr.cell? ⟨B,6,none⟩=some (.slice so t.items.length c):=by rw [zzq2 _ _ _ _ _ _ hb1];rfl
 clear hb1;by_cases hlt:k<t.items.length
 ·obtain⟨b2,off,ai,ci,hao,hb2,q0,q1,q2,q3,q4,q5,q6,q7,q8,hcall,hsd,hw0,hws⟩:=HREC.out k s wr hlt HBk.out HK.out
  subst hao;have HCL:=zzH hcall;have HSD:=zzH hsd;clear hcall hsd;generalize t.items[k]=u at *;generalize zx f u=wu at *;go_wp2_with fail;refine HCL.out.mono ?_;rintro e9 w5 ⟨rfl,hb5⟩;go_wp2_with fail;go_roundw
  case rel=>exact⟨k+1,s+wu,by omega,by go_num,rfl,HSD,by omega,by omega,zzH (ze HBk.out hb5)⟩
  case measure=>simp [intOf];omega
 ·have E:Hid (TV=s):=zzH (by rw [HK.out,zzq6 (by omega)];show s+0=s;omega)
  go_wp2_with fail;go_ret;exact⟨zdl E.out.symm,by rw [HBZ.out];exact HFIN.out _ HBk.out⟩):P:=h
theorem zz163{P:Prop}(h:P:=by
 clear ho hb;go_wp2_with fail;go_ret;exact⟨_,rfl,by rw [HCE.out,HXZ.out];exact HF.out.1,by rw [HXZ.out];exact HF.out.2⟩):P:=h
theorem zz162{P:Prop}(h:P:=by
 go_wp2_with fail;go_meet
 case rel=>
  have HQ:=HS.out
  try simp only [zzq4]at HQ
  rw [HE.out];exact zzH HQ):P:=h
theorem zz160{P:Prop}(h:P:=by
 clear c0 c1 c2 c3 c4 c5 c6 c7 c8 hlx;obtain⟨c0,c1,c2,c3,c4,c5,c6,c7,c8,cz⟩:=zf HS.out.bx.box;have hlx:=zc HS.out.bx.box;clear cz;go_wp2_with (at_builtin;refine Lib.wpList_append_own_string _ rfl (.tmp 61) (.tmp 63) 74 9 rfl X 5 i0 Tryz.underlying74 Tryz.underlying9 hi hz0 hz1 hz2 _ _ _ rfl HS.out.own t.bytes rfl (by unfold maxLen;first|omega|(simp [zk,zn];done)|(simp [zk,zn];omega)) (by first|omega|(simp [zk,zn];done)|(simp [zk,zn];omega)) HS.out.bx.ge ?_);intro v' wz hown' hgrow hnil;have HS:=zzH (HS.out.app (l2:=t.bytes.data.toList) hown' hgrow (by rw [Array.length_toList];rfl) rfl);clear hown' hgrow hnil;go_wp2_with fail;go_ret;have HQ:=HS.out
 try simp only [zzq4]at HQ
 exact⟨_,rfl,by rw [HCE.out,HE.out,HXZ.out];exact HQ.own,by rw [HXZ.out];exact HQ.bx.bel⟩):P:=h
theorem zz161{P:Prop}(h:P:=by
 clear hown' hgrow hnil hloc;clear HN;go_wp2_with fail;go_ret;have HQ:=HS.out
 try simp only [zzq4]at HQ
 exact⟨_,rfl,by rw [HCE.out,HE.out,HXZ.out];exact HQ.own,by rw [HXZ.out];exact HQ.bx.bel⟩):P:=h
theorem zzc9{w:World}{B:Nat}{v0 v1 v2 v3 v4 v5 v6 v7 v8:Value}{l:List Value}{T:Nat}{o:Nat×Nat}(h:w.heap[B]?=some (.cells (v0::v1::v2::v3::v4::v5::v6::v7::v8::l).toArray T o)):w.cell? ⟨B,0,none⟩=some v0/\w.cell? ⟨B,1,none⟩=some v1/\w.cell? ⟨B,2,none⟩=some v2/\w.cell? ⟨B,3,none⟩=some v3/\w.cell? ⟨B,4,none⟩=some v4/\w.cell? ⟨B,5,none⟩=some v5/\w.cell? ⟨B,6,none⟩=some v6/\w.cell? ⟨B,7,none⟩=some v7/\w.cell? ⟨B,8,none⟩=some v8:=⟨zzq2 w B 0 _ _ _ h,zzq2 w B 1 _ _ _ h,zzq2 w B 2 _ _ _ h,zzq2 w B 3 _ _ _ h,zzq2 w B 4 _ _ _ h,zzq2 w B 5 _ _ _ h,zzq2 w B 6 _ _ _ h,zzq2 w B 7 _ _ _ h,zzq2 w B 8 _ _ _ h⟩
theorem zz164{P:Prop}(h:P:=by
 obtain⟨k,hk,rfl,HK,HBk⟩:=hrel;rename World=>wr
 clear c0 c1 c2 c3 c4 c5 c6 c7 c8;have hb1:=(HBk.out.block B (zc HBX.out)).trans HBX.out;have hlb1:=zc hb1;obtain ⟨c0,c1,c2,c3,c4,c5,c6,c7,c8⟩:=zzc9 hb1;clear hb1;by_cases hlt:k<t.items.length
 ·obtain⟨b2,off,ai,ci,hao,hb2,q0,q1,q2,q3,q4,q5,q6,q7,q8,r,hcall,hsd⟩:=HREC.out k wr hlt HBk.out HK.out
  subst hao;have HCL:=zzH hcall;have HSD:=zzH hsd;clear hcall hsd;generalize t.items[k]=u at *
  cases r with
  |true=>
   go_wp2_with fail;refine HCL.out.mono ?_;rintro e9 w5 ⟨rfl,hb5⟩;go_wp2_with fail;go_roundw
   case rel=>exact⟨k+1,by omega,by go_num,zzH (by rw [HSD.out,Bool.true_and]),zzH (ze HBk.out hb5)⟩
   case measure=>simp [intOf];omega
  |false=>
   go_wp2_with fail;refine HCL.out.mono ?_;rintro e9 w5 ⟨rfl,hb5⟩;go_wp2_with fail;go_ret;exact⟨zr (by rw [HET.out A rfl,HSD.out];cases okK t<;>rfl),by rw [HBZ.out];exact HFIN.out _ (ze HBk.out hb5)⟩
 ·have E:Hid (R=okK t):=zzH (by rw [HET.out A rfl,HK.out,zzq6 (by omega)];simp)
  have hkd:=HKD.out;have hE:=E.out;have e2:okK t=(true):=by unfold okK;simp [hkd,Bool.and_assoc]
  rw [e2]at hE;rw [hkd]at c0;clear e2 E HKD hkd;have E:=zzH hE;clear hE;go_wp2_with fail;go_ret;exact⟨zr (by rw [E.out];try simp),by rw [HBZ.out];exact HFIN.out _ HBk.out⟩):P:=h
theorem zz165{P:Prop}(h:P:=by
 obtain⟨b2,off,ai,ci,hao,hb2,q0,q1,q2,q3,q4,q5,q6,q7,q8,r,hcall,hsd⟩:=HREC.out k wr hlt HBk.out HK.out;subst hao;have HCL:=zzH hcall;have HSD:=zzH hsd;clear hcall hsd;generalize t.items[k]=u at *
 cases r with
 |true=>
  go_wp2_with fail;refine HCL.out.mono ?_;rintro e9 w5 ⟨rfl,hb5⟩;go_wp2_with fail;go_roundw
  case rel=>exact⟨k+1,by omega,by go_num,zzH (by rw [HSD.out,Bool.true_and]),zzH (ze HBk.out hb5)⟩
  case measure=>simp [intOf];omega
 |false=>
  go_wp2_with fail;refine HCL.out.mono ?_;rintro e9 w5 ⟨rfl,hb5⟩;go_wp2_with fail;go_ret;exact⟨zr (by rw [HET.out A rfl,HSD.out];cases okK t<;>rfl),by rw [HBZ.out];exact HFIN.out _ (ze HBk.out hb5)⟩):P:=h
theorem zz166{P:Prop}(h:P:=by
 obtain⟨k,hk,rfl,HK,HBk⟩:=hrel;rename World=>wr
 clear c0 c1 c2 c3 c4 c5 c6 c7 c8;have hb1:=(HBk.out.block B (zc HBX.out)).trans HBX.out;have hlb1:=zc hb1;obtain ⟨c0,c1,c2,c3,c4,c5,c6,c7,c8⟩:=zzc9 hb1;clear hb1;by_cases hlt:k<t.items.length
 ·obtain⟨b2,off,ai,ci,hao,hb2,q0,q1,q2,q3,q4,q5,q6,q7,q8,r,hcall,hsd⟩:=HREC.out k wr hlt HBk.out HK.out
  subst hao;have HCL:=zzH hcall;have HSD:=zzH hsd;clear hcall hsd;generalize t.items[k]=u at *
  cases r with
  |true=>
   go_wp2_with fail;refine HCL.out.mono ?_;rintro e9 w5 ⟨rfl,hb5⟩;go_wp2_with fail;go_roundw
   case rel=>exact⟨k+1,by omega,by go_num,zzH (by rw [HSD.out,Bool.true_and]),zzH (ze HBk.out hb5)⟩
   case measure=>simp [intOf];omega
  |false=>
   go_wp2_with fail;refine HCL.out.mono ?_;rintro e9 w5 ⟨rfl,hb5⟩;go_wp2_with fail;go_ret;exact⟨zr (by rw [HET.out A rfl,HSD.out];cases okK t<;>rfl),by rw [HBZ.out];exact HFIN.out _ (ze HBk.out hb5)⟩
 ·have E:Hid (R=okK t):=zzH (by rw [HET.out A rfl,HK.out,zzq6 (by omega)];simp)
  have hkd:=HKD.out;have hE:=E.out;have e2:okK t=(wi t.int 1 2147483647&&wi t.gen 1 2147483647&&zB t.name):=by unfold okK;simp [hkd,Bool.and_assoc]
  rw [e2]at hE;rw [hkd]at c0;clear e2 E HKD hkd;have h0:=fun wx=>zdF t.int 1 2147483647 wx
  have h1:=fun wx=>zdF t.gen 1 2147483647 wx
  have h2:=fun wx=>zdI t.name wx (by unfold maxLen;omega)
  generalize wi t.int 1 2147483647=b0 at *;generalize wi t.gen 1 2147483647=b1 at *;generalize zB t.name=b2 at *;have E:=zzH hE;clear hE
  cases b0 with
  |false=>
   go_wp2_with (first|(go_at_call 157;first|((with_reducible refine(h0 _).mono ?_);rintro e w9 ⟨rfl,rfl⟩)|((with_reducible refine(h1 _).mono ?_);rintro e w9 ⟨rfl,rfl⟩))|(go_at_call 98;first|((with_reducible refine(h2 _).mono ?_);rintro e w9 ⟨rfl,rfl⟩)));go_ret;exact⟨zr (by rw [E.out];try simp),by rw [HBZ.out];exact HFIN.out _ HBk.out⟩
  |true=>
   cases b1 with
   |false=>
    go_wp2_with (first|(go_at_call 157;first|((with_reducible refine(h0 _).mono ?_);rintro e w9 ⟨rfl,rfl⟩)|((with_reducible refine(h1 _).mono ?_);rintro e w9 ⟨rfl,rfl⟩))|(go_at_call 98;first|((with_reducible refine(h2 _).mono ?_);rintro e w9 ⟨rfl,rfl⟩)));go_ret;exact⟨zr (by rw [E.out];try simp),by rw [HBZ.out];exact HFIN.out _ HBk.out⟩
   |true=>
    go_wp2_with (first|(go_at_call 157;first|((with_reducible refine(h0 _).mono ?_);rintro e w9 ⟨rfl,rfl⟩)|((with_reducible refine(h1 _).mono ?_);rintro e w9 ⟨rfl,rfl⟩))|(go_at_call 98;first|((with_reducible refine(h2 _).mono ?_);rintro e w9 ⟨rfl,rfl⟩)));go_ret;exact⟨zr (by rw [E.out];try simp),by rw [HBZ.out];exact HFIN.out _ HBk.out⟩):P:=h
theorem zz167{P:Prop}(h:P:=by
 go_wp2_with (first|(go_at_call 157;first|((with_reducible refine(h2 _).mono ?_);rintro e w9 ⟨rfl,rfl⟩))|(go_at_call 98;first|((with_reducible refine(h0 _).mono ?_);rintro e w9 ⟨rfl,rfl⟩)|((with_reducible refine(h1 _).mono ?_);rintro e w9 ⟨rfl,rfl⟩)));go_ret;exact⟨zr (by rw [E.out];try simp),by rw [HBZ.out];exact HFIN.out _ HBk.out⟩):P:=h
theorem zz168{P:Prop}(h:P:=by
 go_wp2_with (first|(go_at_call 157;first|((with_reducible refine(h0 _).mono ?_);rintro e w9 ⟨rfl,rfl⟩)|((with_reducible refine(h1 _).mono ?_);rintro e w9 ⟨rfl,rfl⟩)|((with_reducible refine(h3 _).mono ?_);rintro e w9 ⟨rfl,rfl⟩))|(go_at_call 98;first|((with_reducible refine(h2 _).mono ?_);rintro e w9 ⟨rfl,rfl⟩)));go_ret;exact⟨zr (by rw [E.out];try simp<;>omega),by rw [HBZ.out];exact HFIN.out _ HBk.out⟩):P:=h
theorem zz169{P:Prop}(h:P:=by
 go_wp2_with fail;refine(HW.out (by trivial) _ HB5.out).mono ?_;rintro e w6 ⟨rfl,hb6⟩;go_wp2_with fail;go_ret;exact⟨zdl E.out.symm,by rw [HBZ.out];exact HB5.out.trans (hb6.mono (by have:=HB5.out.size;have:=HBZ.out;omega))⟩):P:=h
theorem zz170{P:Prop}(h:P:=by
 have HXZ:=zzH ((HBR.out.block X l3).trans HX3.out);have HBZ:=zzH (HBW.out.trans (HBR.out.mono (by have:=HBW.out.size;have:=HX.out;omega)));clear l3;obtain⟨x0,x1,x2,x3,x4,x5,x6,x7,x8,y0,y1,y2,y3,y4,y5,y6,y7,y8⟩:=zf HXZ.out;have l3:=zc HXZ.out;go_wp2_with fail;refine bodyPost_ret (zew rfl _ _ _ X _ _ _ _ rfl (zbG _ _ _ _ _ _ _ _ _ HXZ.out) Tryz.underlying47 (by kernel_rfl)) rfl ?_;rw [<-HQ.out];unfold zgh;rw [HN.out];exact⟨rfl,by rw [HX.out];exact zb1 (zzL X) HBZ.out _ _ _ _ _ _ _ _ _⟩):P:=h
theorem zz171{P:Prop}(h:P:=by
 go_wp2_with fail;go_meet
 case rel=>exact⟨ts,σ,HX,zzH ⟨va,vb,vc,v,S,HO.out.1.bare,HO.out.2.1.bare,HO.out.2.2.bare,⟨HA.out.lies,HN.out⟩⟩⟩):P:=h
theorem zz172{P:Prop}(h:P:=by
 go_wp2_with fail;go_meet
 case rel=>exact⟨ts,σ,HX,zzH ⟨va,vb,v,vd,S,HO.out.1.bare,HO.out.2.1.bare,⟨HA.out.lies,HN.out⟩,HO.out.2.2.bare⟩⟩):P:=h
theorem zz173{P:Prop}(h:P:=by
 go_wp2_with fail;go_meet
 case rel=>exact⟨ts,σ,HX,zzH ⟨va,v,vc,vd,S,HO.out.1.bare,⟨HA.out.lies,HN.out⟩,HO.out.2.1.bare,HO.out.2.2.bare⟩⟩):P:=h
theorem zz174{P:Prop}(h:P:=by
 go_wp2_with fail;go_meet
 case rel=>exact⟨ts,σ,HX,zzH ⟨v,vb,vc,vd,S,⟨HA.out.lies,HN.out⟩,HO.out.1.bare,HO.out.2.1.bare,HO.out.2.2.bare⟩⟩):P:=h
theorem zz176{P:Prop}(h:P:=by
 go_wp2_with fail;go_meet
 case rel=>exact⟨p,rfl,HV2,by omega,HS⟩):P:=h
theorem zz175{P:Prop}(h:P:=by
 go_wp2_with fail;go_meet
 case rel=>exact⟨p2,rfl,HV4,by omega,HS⟩):P:=h
theorem zz177{P:Prop}(h:P:=by
 go_in;go_wp2;go_ret;exact⟨zdl E.out.symm,rfl⟩):P:=h
theorem zz178{P:Prop}(h:P:=by
 go_in;go_wp2_with (go_at_call 149;refine(h1 _).mono ?_;rintro e w1 ⟨rfl,rfl⟩);go_ret;exact⟨zdl E.out.symm,HB.out _ _⟩):P:=h
theorem zz180{P:Prop}(h:P:=by
 have t1:(x.n==1)=true:=by rw [n1];rfl
 have E2:Hid (zl u.funcs.length u.funs x=true):=zzH (by rw [E.out,decide_eq_true n1];rfl);clear n1;go_in;go_upto_region 1 with fail;obtain⟨hU,hX,hBW⟩:=zbQ w u lo fo go co lc fc gc cc x so co' go' sc cc' gc';generalize hWW:(w.alloc (.cells (zzu u lo lc fo fc go gc co cc) 28)).alloc (.cells (zzi x so sc co' cc' go' gc') 64)=W at *;have c0:=hX.c0;have c3:=hX.c3;have c5:=hX.c5;have b3:=hU.c3;have b4:=hU.c4;have hlu:=hU.lt;have hlx:=hX.lt;have HBW:=zzH hBW;clear hU hX hBW hWW;rw [HOP.out]at c0;go_wp2_with fail;go_ret;exact⟨zr E2.out.symm,HBW.out⟩):P:=h
theorem zz179{P:Prop}(h:P:=by
 have t1:(x.n==1)=false:=zzB.2 n1;by_cases n8:x.n=8
 ·have t2:(x.n==8)=true:=by rw [n8];rfl
  have E2:Hid (zl u.funcs.length u.funs x=true):=zzH (by rw [E.out,decide_eq_true n8];simp);clear n1 n8;go_in;go_upto_region 1 with fail;obtain⟨hU,hX,hBW⟩:=zbQ w u lo fo go co lc fc gc cc x so co' go' sc cc' gc';generalize hWW:(w.alloc (.cells (zzu u lo lc fo fc go gc co cc) 28)).alloc (.cells (zzi x so sc co' cc' go' gc') 64)=W at *;have c0:=hX.c0;have c3:=hX.c3;have c5:=hX.c5;have b3:=hU.c3;have b4:=hU.c4;have hlu:=hU.lt;have hlx:=hX.lt;have HBW:=zzH hBW;clear hU hX hBW hWW;rw [HOP.out]at c0;go_wp2_with fail;go_ret;exact⟨zr E2.out.symm,HBW.out⟩
 ·have t2:(x.n==8)=false:=zzB.2 n8
  have E2:Hid (zl u.funcs.length u.funs x=false):=zzH (by rw [E.out,decide_eq_false n1,decide_eq_false n8];rfl);clear n1 n8;go_in;go_upto_region 1 with fail;obtain⟨hU,hX,hBW⟩:=zbQ w u lo fo go co lc fc gc cc x so co' go' sc cc' gc';generalize hWW:(w.alloc (.cells (zzu u lo lc fo fc go gc co cc) 28)).alloc (.cells (zzi x so sc co' cc' go' gc') 64)=W at *;have c0:=hX.c0;have c3:=hX.c3;have c5:=hX.c5;have b3:=hU.c3;have b4:=hU.c4;have hlu:=hU.lt;have hlx:=hX.lt;have HBW:=zzH hBW;clear hU hX hBW hWW;rw [HOP.out]at c0;go_wp2_with fail;go_ret;exact⟨zr E2.out.symm,HBW.out⟩):P:=h
theorem zz181{P:Prop}(h:P:=by
 clear hz E2;go_in;go_upto_region 1 with fail;obtain⟨hU,hX,hBW⟩:=zbQ w u lo fo go co lc fc gc cc x so co' go' sc cc' gc';generalize hWW:(w.alloc (.cells (zzu u lo lc fo fc go gc co cc) 28)).alloc (.cells (zzi x so sc co' cc' go' gc') 64)=W at *;have c0:=hX.c0;have c3:=hX.c3;have c5:=hX.c5;have b3:=hU.c3;have b4:=hU.c4;have hlu:=hU.lt;have hlx:=hX.lt;have HBW:=zzH hBW;clear hU hX hBW hWW;rw [HOP.out]at c0;obtain⟨b2,off,hao,hb2,q0,q1,q2,_,_,_⟩:=(HF.out.mono HBW.out fun _ _ h=>h).fn hml;subst hao;rw [HM.out]at c5;generalize u.funs[m].free=z at *;go_wp2_with fail;go_quiet ((go_at_call 99;exact Calls.quiet_of_same (hwr _)));go_wp2_with fail;go_ret;exact⟨zr E3.out.symm,zY HBW.out _⟩):P:=h
theorem zz185{P:Prop}(h:P:=by
 go_wp2_with (go_at_call 99;refine(hwi _).mono ?_;rintro e w1 ⟨rfl,rfl⟩);go_meet
 case rel=>exact⟨_,rfl,zzH (by rw [hv.out];rfl),rfl⟩):P:=h
theorem zz186{P:Prop}(h:P:=by
 obtain rfl:n1=true:=hn1.out;go_wp2_with fail;go_ret;exact⟨zr (by rw [HE.out];rfl),by rw [HBZ.out];exact HFIN.out _ (zzR _ _)⟩):P:=h
theorem zz184{P:Prop}(h:P:=by
 go_wp2_with (go_at_call 99;refine(hwc _).mono ?_;rintro e w1 ⟨rfl,rfl⟩);go_ret;exact⟨zr E.out.symm,by rw [HBZ.out];exact HFIN.out _ HBWR.out⟩):P:=h
theorem zz182{P:Prop}(h:P:=by
 go_wp2_with fail;go_roundw
 case rel=>exact⟨k+1,by omega,by go_num,HK2,HBQ.out.trans (HB6.out.mono HBQ.out.size)⟩
 case measure=>simp [intOf];omega):P:=h
theorem zz187{P:Prop}(h:P:=by
 go_wp2_with fail;go_ret;exact⟨zr E.out.symm,by rw [HBZ.out];exact HFIN.out _ (HBQ.out.trans (HB7.out.mono HBQ.out.size))⟩):P:=h
theorem zz183{P:Prop}(h:P:=by
 go_wp2_with fail;go_roundw
 case rel=>exact⟨k+1,by omega,by go_num,HK2,HBQ.out.trans (HB7.out.mono HBQ.out.size)⟩
 case measure=>simp [intOf];omega):P:=h
theorem zz190{P:Prop}(h:P:=by
 go_wp2_with (go_at_call 98;refine(hnm _).mono ?_;rintro e w1 ⟨rfl,rfl⟩);go_meet
 case rel=>exact⟨_,rfl,E,rfl⟩):P:=h
theorem zz189{P:Prop}(h:P:=by
 have E:=zzH (HNO.out (.inl rfl));go_wp2_with (first|(go_at_call 98;refine(hn _).mono ?_;rintro e w1 ⟨rfl,rfl⟩)|(go_at_call 99;first|((with_reducible refine(hw1 _).mono ?_);rintro e w1 ⟨rfl,rfl⟩)|((with_reducible refine(hw2 _).mono ?_);rintro e w1 ⟨rfl,rfl⟩)));go_ret;exact⟨zr E.out.symm,by rw [HBZ.out];exact HFIN.out _ (HBQ.out.trans (HBX.out.mono HBQ.out.size))⟩):P:=h
theorem zz188{P:Prop}(h:P:=by
 have E:Hid (zba (f+1) u=false):=zzH (by rw [HE3.out,HK.out,HSTP.out];rfl);go_wp2_with (go_at_call 99;first|((with_reducible refine(hw1 _).mono ?_);rintro e w1 ⟨rfl,rfl⟩)|((with_reducible refine(hw2 _).mono ?_);rintro e w1 ⟨rfl,rfl⟩)|((with_reducible refine(hw3 _).mono ?_);rintro e w1 ⟨rfl,rfl⟩));go_ret;exact⟨zr E.out.symm,by rw [HBZ.out];exact HFIN.out _ (HBQ.out.trans (HBX.out.mono HBQ.out.size))⟩):P:=h
theorem zzc10{w:World}{B:Nat}{v0 v1 v2 v3 v4 v5 v6 v7 v8 v9:Value}{l:List Value}{T:Nat}{o:Nat×Nat}(h:w.heap[B]?=some (.cells (v0::v1::v2::v3::v4::v5::v6::v7::v8::v9::l).toArray T o)):w.cell? ⟨B,0,none⟩=some v0/\w.cell? ⟨B,1,none⟩=some v1/\w.cell? ⟨B,2,none⟩=some v2/\w.cell? ⟨B,3,none⟩=some v3/\w.cell? ⟨B,4,none⟩=some v4/\w.cell? ⟨B,5,none⟩=some v5/\w.cell? ⟨B,6,none⟩=some v6/\w.cell? ⟨B,7,none⟩=some v7/\w.cell? ⟨B,8,none⟩=some v8/\w.cell? ⟨B,9,none⟩=some v9:=⟨zzq2 w B 0 _ _ _ h,zzq2 w B 1 _ _ _ h,zzq2 w B 2 _ _ _ h,zzq2 w B 3 _ _ _ h,zzq2 w B 4 _ _ _ h,zzq2 w B 5 _ _ _ h,zzq2 w B 6 _ _ _ h,zzq2 w B 7 _ _ _ h,zzq2 w B 8 _ _ _ h,zzq2 w B 9 _ _ _ h⟩
theorem zz191{P:Prop}(h:P:=by
 clear hq;go_wp2_with fail;refine hop.mono ?_;rintro e9 w1 ⟨rfl,hb1⟩;clear b0 b1 b2 b3 b4 b5 c0 c1 c2 c3 c4 c5 c6 c7 c8 c9 q0 q1 q2 q3 q4 q5 q6 q7 q8 q9 hlu hlx hlr;have hU1:=HU.out.below hb1;have hX1:=HX.out.below hb1;have hR1:=(hb1.block _ (zc HRB.out)).trans HRB.out;have b0:=hU1.c0;have b1:=hU1.c1;have b2:=hU1.c2;have b3:=hU1.c3;have b4:=hU1.c4;have b5:=hU1.c5;have c0:=hX1.c0;have c1:=hX1.c1;have c2:=hX1.c2;have c3:=hX1.c3;have c4:=hX1.c4;have c5:=hX1.c5;have c6:=hX1.c6;have c7:=hX1.c7;have c8:=hX1.c8;have c9:=hX1.c9;obtain ⟨q0,q1,q2,q3,q4,q5,q6,q7,q8,q9⟩:=zzc10 hR1;have hlu:=hU1.lt;have hlx:=hX1.lt;have hlr:=zc hR1;clear hU1 hX1 hR1;go_wp2_with fail;go_meet
 case rel=>exact⟨true,rfl,E,zzH hb1⟩):P:=h
theorem zz192{P:Prop}(h:P:=by
 go_wp2_with fail;go_ret;exact⟨zr E.out.symm,by rw [HBZ.out];exact HFIN.out _ HBk.out⟩):P:=h
theorem zzX2:type_of% (And.intro @Bool.true_or (And.intro @Bool.false_or (And.intro @Bool.true_and (And.intro @Bool.and_true (And.intro @Bool.or_true @Bool.or_false))))):=And.intro @Bool.true_or (And.intro @Bool.false_or (And.intro @Bool.true_and (And.intro @Bool.and_true (And.intro @Bool.or_true @Bool.or_false))))
theorem zzX3:type_of% (And.intro @Bool.true_or (And.intro @Bool.false_or (And.intro @Bool.true_and (And.intro @Bool.and_true (And.intro @Bool.false_and (And.intro @Bool.and_false (And.intro @Bool.or_self (And.intro @Bool.or_false @Bool.or_true)))))))):=And.intro @Bool.true_or (And.intro @Bool.false_or (And.intro @Bool.true_and (And.intro @Bool.and_true (And.intro @Bool.false_and (And.intro @Bool.and_false (And.intro @Bool.or_self (And.intro @Bool.or_false @Bool.or_true)))))))
theorem zz193{P:Prop}(h:P:=by
 rcases HOP.out with rfl|rfl
 all_goals
  go_wp2_with fail;refine(HWR.out _).mono ?_;rintro e9 w1 ⟨rfl,-,rfl⟩;go_wp2_with fail;go_ret;exact⟨zr E.out.symm,by rw [HBZ.out];exact HFIN.out _ (zzR _ _)⟩):P:=h
theorem zz194{P:Prop}(h:P:=by
 clear hv HC;go_in;go_wp2_with fail;refine hn.mono ?_;rintro e w1 ⟨rfl,rfl⟩;go_wp2_with fail;go_ret;exact⟨zdl E.out.symm,zzR _ _⟩):P:=h
theorem zz196{P:Prop}(h:P:=by
 simp only [q1]at E0
 try simp only [zzX4]at E0
 go_wp2_with fail;refine hop2.mono ?_;rintro e w2 ⟨rfl,rfl⟩;go_wp2_with fail;go_ret;exact⟨zr E0.out.symm,by rw [HBZ.out];exact HB1.out⟩):P:=h
theorem zz195{P:Prop}(h:P:=by
 simp only [t0]at E0;have t0':=zlG t0
 cases t1:(x.name.toList== [123,125])with
 |true=>
  simp only [t1]at E0
  try simp only [zzX4]at E0
  go_wp2_with fail;refine hop2.mono ?_;rintro e w2 ⟨rfl,rfl⟩;go_wp2_with fail;go_ret;exact⟨zr E0.out.symm,by rw [HBZ.out];exact HB1.out⟩
 |false=>
  simp only [t1]at E0
  cases t2:(x.name.toList== [124])with
  |true=>
   simp only [t2]at E0
   cases q2:((x.src.length:Int)==2)with
   |true=>
    simp only [q2]at E0
    try simp only [zzX4]at E0
    go_wp2_with fail;refine hop2.mono ?_;rintro e w2 ⟨rfl,rfl⟩;go_wp2_with fail;go_ret;exact⟨zr E0.out.symm,by rw [HBZ.out];exact HB1.out⟩
   |false=>
    simp only [q2]at E0
    try simp only [zzX4]at E0
    go_wp2_with fail;refine hop2.mono ?_;rintro e w2 ⟨rfl,rfl⟩;go_wp2_with fail;go_ret;exact⟨zr E0.out.symm,by rw [HBZ.out];exact HB1.out⟩
  |false=>
   simp only [t2]at E0
   try simp only [zzX4]at E0
   go_wp2_with fail;refine hop2.mono ?_;rintro e w2 ⟨rfl,rfl⟩;go_wp2_with fail;go_ret;exact⟨zr E0.out.symm,by rw [HBZ.out];exact HB1.out⟩):P:=h
theorem zz197{P:Prop}(h:P:=by
 simp only [q2]at E0
 try simp only [zzX4]at E0
 go_wp2_with fail;refine hop2.mono ?_;rintro e w2 ⟨rfl,rfl⟩;go_wp2_with fail;go_ret;exact⟨zr E0.out.symm,by rw [HBZ.out];exact HB1.out⟩):P:=h
theorem zz199{P:Prop}(h:P:=by
 try simp only [zzX4]at E0
 go_wp2_with fail;refine hop2.mono ?_;rintro e w2 ⟨rfl,rfl⟩;go_wp2_with fail;refine hc2.mono ?_;rintro e w3 ⟨rfl,hb3⟩;have c5':=(HX1.out.below hb3).c5;have c7':=(HX1.out.below hb3).c7;have hlx3:=(HX1.out.below hb3).lt;have HB3:Hid (Below B w w3):=zzH (HB1.out.trans (hb3.mono (by have:=HB1.out.size;have:=HBZ.out;omega)));clear hb3 c0 c3 c5 c7;go_wp2_with fail;go_ret;exact⟨zr E0.out.symm,by rw [HBZ.out];exact HB3.out⟩):P:=h
theorem zz198{P:Prop}(h:P:=by
 simp only [q2]at E0
 try simp only [zzX4]at E0
 go_wp2_with fail;refine hop2.mono ?_;rintro e w2 ⟨rfl,rfl⟩;go_wp2_with fail;refine hc2.mono ?_;rintro e w3 ⟨rfl,hb3⟩;have c5':=(HX1.out.below hb3).c5;have c7':=(HX1.out.below hb3).c7;have hlx3:=(HX1.out.below hb3).lt;have HB3:Hid (Below B w w3):=zzH (HB1.out.trans (hb3.mono (by have:=HB1.out.size;have:=HBZ.out;omega)));clear hb3 c0 c3 c5 c7;go_wp2_with fail;go_ret;exact⟨zr E0.out.symm,by rw [HBZ.out];exact HB3.out⟩):P:=h
theorem zz200{P:Prop}(h:P:=by
 go_wp2_with fail;go_roundw
 case rel=>exact⟨k+1,p2++A1,by omega,by go_num,congrArg Value.string (zF _ _),HV4,by rw [zzq1];omega,HB⟩
 case measure=>simp [intOf];omega):P:=h
theorem zz201{P:Prop}(h:P:=by
 go_wp2_with fail;go_roundw
 case rel=>exact⟨k+1,by omega,by go_num,HBR.out.drew.trans (hb5.mono HBR.out.size)⟩
 case measure=>simp [intOf];omega):P:=h
theorem zz202{P:Prop}(h:P:=by
 go_wp2_with fail;go_quiet (fail);go_wp2_with fail;go_roundw
 case rel=>exact⟨k+1,by omega,by go_num,zY HBR.out _⟩
 case measure=>simp [intOf];omega):P:=h
theorem zz203{P:Prop}(h:P:=by
 go_wp2_with fail;have hG9:=HG.out.six (.string ⟨#[]⟩) (.int .i64 0) (.slice none 0 0) (.slice none 0 0) (.slice none 0 0) (.slice none 0 0);clear q0 q1 q2 q3 q4 q5 z0 z1 z2 z3 z4 z5;generalize World.setCell _ _ _=w9 at *;refine bodyPost_ret (zbb rfl _ _ _ w.heap.size _ _ _ _ rfl hG9.x Tryz.underlying28 (by kernel_rfl)) rfl ?_;rw [<-HQ.out];exact⟨by rw [HN.out];rfl,hG9.b⟩):P:=h
def I64 (z:Int):Prop:= -9223372036854775808<=z/\z<=9223372036854775807
instance (z:Int):Decidable (I64 z):=by unfold I64;infer_instance
theorem zr {a b:Bool} (h:a=b):Ending.returned (.bool a)= .returned (.bool b):=by rw [h]
theorem zdl {k:IntKind} {a b:Int} (h:a=b):Ending.returned (.int k a)= .returned (.int k b):=by rw [h]
theorem wrap_i64 (z:Int):I64 (wrap64 z):=by unfold I64 wrap64;omega
def hi (y:Int) (k:Nat):Int:= -y/2^k
inductive Tm where
 |mk (kind int gen:Int) (name func:ByteArray) (arity:Int) (items:List Tm) (bytes:ByteArray) (bits:Int)
namespace Tm
def kind:Tm->Int|.mk a _ _ _ _ _ _ _ _=>a
def int:Tm->Int|.mk _ a _ _ _ _ _ _ _=>a
def gen:Tm->Int|.mk _ _ a _ _ _ _ _ _=>a
def name:Tm->ByteArray|.mk _ _ _ a _ _ _ _ _=>a
def func:Tm->ByteArray|.mk _ _ _ _ a _ _ _ _=>a
def arity:Tm->Int|.mk _ _ _ _ _ a _ _ _=>a
def items:Tm->List Tm|.mk _ _ _ _ _ _ a _ _=>a
def bytes:Tm->ByteArray|.mk _ _ _ _ _ _ _ a _=>a
def bits:Tm->Int|.mk _ _ _ _ _ _ _ _ a=>a
def Ok (t:Tm):Prop:=I64 t.kind/\I64 t.int/\I64 t.gen/\t.name.size<=maxLen/\t.func.size<=maxLen/\I64 t.arity/\t.items.length<=maxLen/\t.bytes.size<=maxLen/\I64 t.bits
end Tm
structure RArg where
 kind:Int
 n:Int
structure RCase where
 lit:Int
 «to»:Int
structure RSeg where
 type:Int
 val:RArg
 size:RArg
 little:Bool
structure RIns where
 op:Int
 dst:RArg
 src:List RArg
 «to»:Int
 n:Int
 live:Int
 name:ByteArray
 cases:List RCase
 segs:List RSeg
structure RFunc where
 name:ByteArray
 arity:Int
 pub:Bool
 entry:Int
structure RFun where
 arity:Int
 free:Int
 entry:Int
structure RUnit where
 mdl:ByteArray
 vsn:Int
 lits:List Tm
 funcs:List RFunc
 funs:List RFun
 code:List RIns
abbrev zzt(t:Tm)(a:Option Addr)(b:Nat):Array Value:=#[.int .i64 t.kind,.int .i64 t.int,.int .i64 t.gen,.string t.name,.string t.func,.int .i64 t.arity,.slice a t.items.length b,.string t.bytes,.int .i64 t.bits]
abbrev zzi(x:RIns)(a:Option Addr)(b:Nat)(c:Option Addr)(d:Nat)(e:Option Addr)(f:Nat):Array Value:=#[.int .i64 x.op,.int .i64 x.dst.kind,.int .i64 x.dst.n,.slice a x.src.length b,.int .i64 x.to,.int .i64 x.n,.int .i64 x.live,.string x.name,.slice c x.cases.length d,.slice e x.segs.length f]
abbrev zzu(u:RUnit)(a:Option Addr)(b:Nat)(c:Option Addr)(d:Nat)(e:Option Addr)(f:Nat)(g:Option Addr)(h:Nat):Array Value:=#[.string u.mdl,.int .i64 u.vsn,.slice a u.lits.length b,.slice c u.funcs.length d,.slice e u.funs.length f,.slice g u.code.length h]
def SlAt {α:Type} (w:World) (size:Nat) (R:List Value->α->Prop) (ao:Option Addr) (l:List α):Prop:=
 l= []∨ ∃b off,ao=some ⟨b,off,none⟩/\b<w.heap.size/\ ∀j (h:j<l.length),∃cs:List Value,cs.length=size/\(∀i,i<size->w.cell? ⟨b,off+j*size+i,none⟩=cs[i]?)/\R cs l[j]
theorem SlAt.mono {α:Type} {w w':World} {size:Nat} {R R':List Value->α->Prop} {ao:Option Addr} {l:List α} (h:SlAt w size R ao l) (hb:Below w.heap.size w w') (hR: ∀cs a,R cs a->R' cs a):SlAt w' size R' ao l:=by
 rcases h with h|⟨b,off,e,hB,hr⟩
 ·exact .inl h
 ·refine .inr ⟨b,off,e,zzW hB hb.size,fun j hj=>?_⟩
  obtain⟨cs,hl,hc,hR'⟩:=hr j hj;exact⟨cs,hl,fun i hi=>(hb.cell (p:=⟨b,off+j*size+i,none⟩) hB).trans (hc i hi),hR _ _ hR'⟩
theorem SlAt.row {α:Type} {w:World} {size:Nat} {R:List Value->α->Prop} {ao:Option Addr} {l:List α} (h:SlAt w size R ao l) {k:Nat} (hk:k<l.length):
  ∃b off,ao=some ⟨b,off,none⟩/\b<w.heap.size/\ ∀j (h:j<l.length),∃cs:List Value,cs.length=size/\(∀i,i<size->w.cell? ⟨b,off+j*size+i,none⟩=cs[i]?)/\R cs l[j]:=by
 rcases h with h|h
 ·rw [h]at hk;exact absurd hk (Nat.not_lt_zero _)
 ·exact h
theorem SlAt.nil {α:Type} (w:World) (size:Nat) (R:List Value->α->Prop) (ao:Option Addr):SlAt w size R ao []:=.inl rfl
def TmAt (w:World):Nat->List Value->Tm->Prop
 |0,_,_=>False
 |f+1,cs,t=>(∃ao c,cs= [.int .i64 t.kind,.int .i64 t.int,.int .i64 t.gen,.string t.name,.string t.func,.int .i64 t.arity,.slice ao t.items.length c,.string t.bytes,.int .i64 t.bits]/\SlAt w 9 (TmAt w f) ao t.items)/\t.Ok
theorem TmAt.below {w w':World} (hb:Below w.heap.size w w'): ∀{f:Nat} {cs:List Value} {t:Tm},TmAt w f cs t->TmAt w' f cs t
 |0,_,_,h=>h
 |_+1,_,_,⟨⟨ao,c,e,hs⟩,ho⟩=>⟨⟨ao,c,e,hs.mono hb fun _ _ h=>TmAt.below hb h⟩,ho⟩
theorem SlAt.imp {α:Type} {w:World} {size:Nat} {R R':List Value->α->Prop} {ao:Option Addr} {l:List α} (h:SlAt w size R ao l) (hR: ∀cs a,R cs a->R' cs a):SlAt w size R' ao l:=
 h.elim .inl fun⟨b,off,e,hB,hr⟩=>.inr ⟨b,off,e,hB,fun j hj=>(hr j hj).elim fun cs ⟨a,b,c⟩=>⟨cs,a,b,hR _ _ c⟩⟩
theorem TmAt.succ {w:World}: ∀{f:Nat} {cs:List Value} {t:Tm},TmAt w f cs t->TmAt w (f+1) cs t
 |0,_,_,h=>h.elim
 |f+1,_,_,⟨⟨ao,c,e,hs⟩,ho⟩=>⟨⟨ao,c,e,hs.imp fun _ _ h=>TmAt.succ h⟩,ho⟩
def TmA (w:World) (cs:List Value) (t:Tm):Prop:= ∃f,TmAt w f cs t
theorem TmA.below {w w':World} {cs:List Value} {t:Tm} (h:TmA w cs t) (hb:Below w.heap.size w w'):TmA w' cs t:=h.elim fun f h=>⟨f,h.below hb⟩
theorem TmAt.ok {w:World}: ∀{f:Nat} {cs:List Value} {t:Tm},TmAt w f cs t->t.Ok
 |0,_,_,h=>h.elim
 |_+1,_,_,⟨_,ho⟩=>ho
def zdj (cs:List Value) (a:RArg):Prop:=cs= [.int .i64 a.kind,.int .i64 a.n]/\I64 a.kind/\I64 a.n
def zcR (cs:List Value) (a:RCase):Prop:=cs= [.int .i64 a.lit,.int .i64 a.to]/\I64 a.lit/\I64 a.to
def zdk (cs:List Value) (a:RSeg):Prop:=cs= [.int .i64 a.type,.int .i64 a.val.kind,.int .i64 a.val.n,.int .i64 a.size.kind,.int .i64 a.size.n,.bool a.little]/\I64 a.type/\I64 a.val.kind/\I64 a.val.n/\I64 a.size.kind/\I64 a.size.n
def zc7 (cs:List Value) (a:RFunc):Prop:=cs= [.string a.name,.int .i64 a.arity,.bool a.pub,.int .i64 a.entry]/\a.name.size<=maxLen/\I64 a.arity/\I64 a.entry
def zbB (cs:List Value) (a:RFun):Prop:=cs= [.int .i64 a.arity,.int .i64 a.free,.int .i64 a.entry]/\I64 a.arity/\I64 a.free/\I64 a.entry
def InsR (w:World) (cs:List Value) (x:RIns):Prop:=
 (∃so sc co cc go gc,cs= [.int .i64 x.op,.int .i64 x.dst.kind,.int .i64 x.dst.n,.slice so x.src.length sc,.int .i64 x.to,.int .i64 x.n,.int .i64 x.live,.string x.name,.slice co x.cases.length cc,.slice go x.segs.length gc] /\
  SlAt w 2 zdj so x.src/\SlAt w 2 zcR co x.cases/\SlAt w 6 zdk go x.segs) /\
 I64 x.op/\I64 x.dst.kind/\I64 x.dst.n/\x.src.length<=maxLen/\I64 x.to/\I64 x.n/\I64 x.live/\x.name.size<=maxLen/\x.cases.length<=maxLen/\x.segs.length<=maxLen
theorem InsR.below {w w':World} {cs:List Value} {x:RIns} (h:InsR w cs x) (hb:Below w.heap.size w w'):InsR w' cs x:=by
 obtain⟨⟨so,sc,co,cc,go,gc,e,h1,h2,h3⟩,hr⟩:=h;exact⟨⟨so,sc,co,cc,go,gc,e,h1.mono hb fun _ _ h=>h,h2.mono hb fun _ _ h=>h,h3.mono hb fun _ _ h=>h⟩,hr⟩
def UR (w:World) (cs:List Value) (u:RUnit):Prop:=
 (∃lo lc fo fc go gc co cc,cs= [.string u.mdl,.int .i64 u.vsn,.slice lo u.lits.length lc,.slice fo u.funcs.length fc,.slice go u.funs.length gc,.slice co u.code.length cc] /\
  SlAt w 9 (TmA w) lo u.lits/\SlAt w 4 zc7 fo u.funcs/\SlAt w 3 zbB go u.funs/\SlAt w 10 (InsR w) co u.code) /\
 u.mdl.size<=maxLen/\I64 u.vsn/\u.lits.length<=maxLen/\u.funcs.length<=maxLen/\u.funs.length<=maxLen/\u.code.length<=maxLen
theorem UR.below {w w':World} {cs:List Value} {u:RUnit} (h:UR w cs u) (hb:Below w.heap.size w w'):UR w' cs u:=by
 obtain⟨⟨lo,lc,fo,fc,go,gc,co,cc,e,h1,h2,h3,h4⟩,hr⟩:=h;exact⟨⟨lo,lc,fo,fc,go,gc,co,cc,e,h1.mono hb fun _ _ h=>h.below hb,h2.mono hb fun _ _ h=>h,h3.mono hb fun _ _ h=>h,h4.mono hb fun _ _ h=>h.below hb⟩,hr⟩
section
variable {H:Type} {enc:TypeId × Value->H} {P:Program} {w:World} {base:Nat} {spare:Nat->Bool} {held:Bool}
end
theorem zje {α:Type} {l:List α} {k:Nat} (h:k<l.length):l.drop k=l[k]::l.drop (k+1):=List.drop_eq_getElem_cons h
def zcY (n:ByteArray) (a:Int):List RFunc->Nat->Option Nat
 |[],_=>none
 |f::l,i=>if f.name=n/\f.arity=a then some i else zcY n a l (i+1)
def zgz (n:ByteArray) (a:Int) (l:List RFunc):Int:=match zcY n a l 0 with
 |some i=>i
 |none=>0
def zhi (n:ByteArray) (a:Int) (l:List RFunc):Bool:=(zcY n a l 0).isSome
theorem zoq {n:ByteArray} {a:Int} {l:List RFunc} {k i:Nat} (h:k<l.length) (hh:l[k].name=n/\l[k].arity=a):zcY n a (l.drop k) i=some i:=by
 rw [zje h,zcY,if_pos hh]
theorem zmc {n:ByteArray} {a:Int} {l:List RFunc} {k i:Nat} (h:k<l.length) (hh: ¬(l[k].name=n/\l[k].arity=a)):zcY n a (l.drop k) i=zcY n a (l.drop (k+1)) (i+1):=by
 rw [zje h,zcY,if_neg hh]
section
variable {w:World} {ao:Option Addr} {k:Nat}
theorem SlAt.tm {f:Nat} {l:List Tm} (h:SlAt w 9 (TmAt w (f+1)) ao l) (hk:k<l.length):
  ∃b off ai c,ao=some ⟨b,off,none⟩/\b<w.heap.size/\w.cell? ⟨b,off+k*9,none⟩=some (.int .i64 l[k].kind)/\w.cell? ⟨b,off+k*9+1,none⟩=some (.int .i64 l[k].int) /\
   w.cell? ⟨b,off+k*9+2,none⟩=some (.int .i64 l[k].gen)/\w.cell? ⟨b,off+k*9+3,none⟩=some (.string l[k].name)/\w.cell? ⟨b,off+k*9+4,none⟩=some (.string l[k].func) /\
   w.cell? ⟨b,off+k*9+5,none⟩=some (.int .i64 l[k].arity)/\w.cell? ⟨b,off+k*9+6,none⟩=some (.slice ai l[k].items.length c)/\w.cell? ⟨b,off+k*9+7,none⟩=some (.string l[k].bytes) /\
   w.cell? ⟨b,off+k*9+8,none⟩=some (.int .i64 l[k].bits)/\SlAt w 9 (TmAt w f) ai l[k].items/\l[k].Ok:=by
 obtain⟨b,off,e,hb,hr⟩:=h.row hk;obtain⟨cs,_,hc,⟨ai,c,rfl,hs⟩,ho⟩:=hr k hk;exact⟨b,off,ai,c,e,hb,hc 0 (by decide),hc 1 (by decide),hc 2 (by decide),hc 3 (by decide),hc 4 (by decide),hc 5 (by decide),hc 6 (by decide),hc 7 (by decide),hc 8 (by decide),hs,ho⟩
theorem SlAt.arg {l:List RArg} (h:SlAt w 2 zdj ao l) (hk:k<l.length):
  ∃b off,ao=some ⟨b,off,none⟩/\b<w.heap.size/\w.cell? ⟨b,off+k*2,none⟩=some (.int .i64 l[k].kind)/\w.cell? ⟨b,off+k*2+1,none⟩=some (.int .i64 l[k].n)/\I64 l[k].kind/\I64 l[k].n:=by
 obtain⟨b,off,e,hb,hr⟩:=h.row hk;obtain⟨cs,_,hc,rfl,h1,h2⟩:=hr k hk;exact⟨b,off,e,hb,hc 0 (by decide),hc 1 (by decide),h1,h2⟩
theorem SlAt.case {l:List RCase} (h:SlAt w 2 zcR ao l) (hk:k<l.length):
  ∃b off,ao=some ⟨b,off,none⟩/\b<w.heap.size/\w.cell? ⟨b,off+k*2,none⟩=some (.int .i64 l[k].lit)/\w.cell? ⟨b,off+k*2+1,none⟩=some (.int .i64 l[k].to)/\I64 l[k].lit/\I64 l[k].to:=by
 obtain⟨b,off,e,hb,hr⟩:=h.row hk;obtain⟨cs,_,hc,rfl,h1,h2⟩:=hr k hk;exact⟨b,off,e,hb,hc 0 (by decide),hc 1 (by decide),h1,h2⟩
theorem SlAt.seg {l:List RSeg} (h:SlAt w 6 zdk ao l) (hk:k<l.length):
  ∃b off,ao=some ⟨b,off,none⟩/\b<w.heap.size/\w.cell? ⟨b,off+k*6,none⟩=some (.int .i64 l[k].type)/\w.cell? ⟨b,off+k*6+1,none⟩=some (.int .i64 l[k].val.kind)/\w.cell? ⟨b,off+k*6+2,none⟩=some (.int .i64 l[k].val.n) /\
   w.cell? ⟨b,off+k*6+3,none⟩=some (.int .i64 l[k].size.kind)/\w.cell? ⟨b,off+k*6+4,none⟩=some (.int .i64 l[k].size.n)/\w.cell? ⟨b,off+k*6+5,none⟩=some (.bool l[k].little) /\
   I64 l[k].type/\I64 l[k].val.kind/\I64 l[k].val.n/\I64 l[k].size.kind/\I64 l[k].size.n:=by
 obtain⟨b,off,e,hb,hr⟩:=h.row hk;obtain⟨cs,_,hc,rfl,h1⟩:=hr k hk;exact⟨b,off,e,hb,hc 0 (by decide),hc 1 (by decide),hc 2 (by decide),hc 3 (by decide),hc 4 (by decide),hc 5 (by decide),h1⟩
theorem SlAt.func {l:List RFunc} (h:SlAt w 4 zc7 ao l) (hk:k<l.length):
  ∃b off,ao=some ⟨b,off,none⟩/\b<w.heap.size/\w.cell? ⟨b,off+k*4,none⟩=some (.string l[k].name)/\w.cell? ⟨b,off+k*4+1,none⟩=some (.int .i64 l[k].arity)/\w.cell? ⟨b,off+k*4+2,none⟩=some (.bool l[k].pub) /\
   w.cell? ⟨b,off+k*4+3,none⟩=some (.int .i64 l[k].entry)/\l[k].name.size<=maxLen/\I64 l[k].arity/\I64 l[k].entry:=by
 obtain⟨b,off,e,hb,hr⟩:=h.row hk;obtain⟨cs,_,hc,rfl,h1⟩:=hr k hk;exact⟨b,off,e,hb,hc 0 (by decide),hc 1 (by decide),hc 2 (by decide),hc 3 (by decide),h1⟩
theorem SlAt.fn {l:List RFun} (h:SlAt w 3 zbB ao l) (hk:k<l.length):
  ∃b off,ao=some ⟨b,off,none⟩/\b<w.heap.size/\w.cell? ⟨b,off+k*3,none⟩=some (.int .i64 l[k].arity)/\w.cell? ⟨b,off+k*3+1,none⟩=some (.int .i64 l[k].free)/\w.cell? ⟨b,off+k*3+2,none⟩=some (.int .i64 l[k].entry) /\
   I64 l[k].arity/\I64 l[k].free/\I64 l[k].entry:=by
 obtain⟨b,off,e,hb,hr⟩:=h.row hk;obtain⟨cs,_,hc,rfl,h1⟩:=hr k hk;exact⟨b,off,e,hb,hc 0 (by decide),hc 1 (by decide),hc 2 (by decide),h1⟩
theorem SlAt.ins {l:List RIns} (h:SlAt w 10 (InsR w) ao l) (hk:k<l.length):
  ∃b off so sc co cc go gc,ao=some ⟨b,off,none⟩/\b<w.heap.size/\w.cell? ⟨b,off+k*10,none⟩=some (.int .i64 l[k].op)/\w.cell? ⟨b,off+k*10+1,none⟩=some (.int .i64 l[k].dst.kind)/\w.cell? ⟨b,off+k*10+2,none⟩=some (.int .i64 l[k].dst.n) /\
   w.cell? ⟨b,off+k*10+3,none⟩=some (.slice so l[k].src.length sc)/\w.cell? ⟨b,off+k*10+4,none⟩=some (.int .i64 l[k].to)/\w.cell? ⟨b,off+k*10+5,none⟩=some (.int .i64 l[k].n)/\w.cell? ⟨b,off+k*10+6,none⟩=some (.int .i64 l[k].live) /\
   w.cell? ⟨b,off+k*10+7,none⟩=some (.string l[k].name)/\w.cell? ⟨b,off+k*10+8,none⟩=some (.slice co l[k].cases.length cc)/\w.cell? ⟨b,off+k*10+9,none⟩=some (.slice go l[k].segs.length gc) /\
   SlAt w 2 zdj so l[k].src/\SlAt w 2 zcR co l[k].cases/\SlAt w 6 zdk go l[k].segs /\
   I64 l[k].op/\I64 l[k].dst.kind/\I64 l[k].dst.n/\l[k].src.length<=maxLen/\I64 l[k].to/\I64 l[k].n/\I64 l[k].live/\l[k].name.size<=maxLen/\l[k].cases.length<=maxLen/\l[k].segs.length<=maxLen:=by
 obtain⟨b,off,e,hb,hr⟩:=h.row hk;obtain⟨cs,_,hc,⟨so,sc,co,cc,go,gc,rfl,s1,s2,s3⟩,h1⟩:=hr k hk;exact⟨b,off,so,sc,co,cc,go,gc,e,hb,hc 0 (by decide),hc 1 (by decide),hc 2 (by decide),hc 3 (by decide),hc 4 (by decide),hc 5 (by decide),hc 6 (by decide),hc 7 (by decide),hc 8 (by decide),hc 9 (by decide),s1,s2,s3,h1⟩
end
theorem ze {w a b:World} (h:Below w.heap.size w a) (k:Below a.heap.size a b):Below w.heap.size w b:=h.trans (k.mono h.size)
theorem zY {B:Nat} {a w:World} (h:Below B a w) (n:Nat):Below B a (w.drewN n):=⟨h.os,h.tape,h.output,h.size,h.block⟩
theorem SlAt.zero {w:World} {ao:Option Addr} {l:List Tm} (h:SlAt w 9 (TmAt w 0) ao l):l= []:=by
 rcases h with h|⟨b,off,e,hb,hr⟩
 ·exact h
 ·cases l with
  |nil=>rfl
  |cons t l=>
   obtain⟨cs,_,_,hf⟩:=hr 0 (by simp);exact hf.elim
theorem SlAt.tms {w w':World} {f:Nat} {ao:Option Addr} {l:List Tm} (h:SlAt w 9 (TmAt w f) ao l) (hb:Below w.heap.size w w'):SlAt w' 9 (TmAt w' f) ao l:=h.mono hb fun _ _ h=>h.below hb
structure UP (w:World) (u:RUnit) (lo fo go co:Option Addr):Prop where
 lits:SlAt w 9 (TmA w) lo u.lits
 funcs:SlAt w 4 zc7 fo u.funcs
 funs:SlAt w 3 zbB go u.funs
 code:SlAt w 10 (InsR w) co u.code
 mdlLen:u.mdl.size<=9223372036854775807
 vsn:I64 u.vsn
 litsLen:u.lits.length<=9223372036854775807
 funcsLen:u.funcs.length<=9223372036854775807
 funsLen:u.funs.length<=9223372036854775807
 codeLen:u.code.length<=9223372036854775807
theorem UP.below {w w':World} {u:RUnit} {lo fo go co:Option Addr} (h:UP w u lo fo go co) (hb:Below w.heap.size w w'):UP w' u lo fo go co:=
 ⟨h.lits.mono hb fun _ _ h=>h.below hb,h.funcs.mono hb fun _ _ h=>h,h.funs.mono hb fun _ _ h=>h,h.code.mono hb fun _ _ h=>h.below hb,h.mdlLen,h.vsn,h.litsLen,h.funcsLen,h.funsLen,h.codeLen⟩
structure UBox (w:World) (B:Nat) (u:RUnit) (lo fo go co:Option Addr) (lc fc gc cc:Nat):Prop where
 box:w.heap[B]?=some (.cells #[.string u.mdl,.int .i64 u.vsn,.slice lo u.lits.length lc,.slice fo u.funcs.length fc,.slice go u.funs.length gc,.slice co u.code.length cc] 28 (0,0))
theorem zn1 {k:IntKind} {a b:Int} {c d:Bool} (h:a=b) (h':c=d):Ending.returned (.tuple #[.int k a,.bool c])= .returned (.tuple #[.int k b,.bool d]):=by rw [h,h']
theorem zc {w:World} {C:Nat} {o:Obj} (h:w.heap[C]?=some o):C<w.heap.size:=(Array.getElem?_eq_some_iff.1 h).1
section
variable {w:World} {B:Nat} {u:RUnit} {lo fo go co:Option Addr} {lc fc gc cc:Nat}
theorem UBox.lt (h:UBox w B u lo fo go co lc fc gc cc):B<w.heap.size:=zc h.box
theorem UBox.below {w':World} (h:UBox w B u lo fo go co lc fc gc cc) (hb:Below w.heap.size w w'):UBox w' B u lo fo go co lc fc gc cc:=⟨(hb.block B h.lt).trans h.box⟩
theorem UBox.c0 (h:UBox w B u lo fo go co lc fc gc cc):w.cell? ⟨B,0,none⟩=some (.string u.mdl):=by rw [zzq2 _ _ _ _ _ _ h.box];rfl
theorem UBox.c1 (h:UBox w B u lo fo go co lc fc gc cc):w.cell? ⟨B,1,none⟩=some (.int .i64 u.vsn):=by rw [zzq2 _ _ _ _ _ _ h.box];rfl
theorem UBox.c2 (h:UBox w B u lo fo go co lc fc gc cc):w.cell? ⟨B,2,none⟩=some (.slice lo u.lits.length lc):=by rw [zzq2 _ _ _ _ _ _ h.box];rfl
theorem UBox.c3 (h:UBox w B u lo fo go co lc fc gc cc):w.cell? ⟨B,3,none⟩=some (.slice fo u.funcs.length fc):=by rw [zzq2 _ _ _ _ _ _ h.box];rfl
theorem UBox.c4 (h:UBox w B u lo fo go co lc fc gc cc):w.cell? ⟨B,4,none⟩=some (.slice go u.funs.length gc):=by rw [zzq2 _ _ _ _ _ _ h.box];rfl
theorem UBox.c5 (h:UBox w B u lo fo go co lc fc gc cc):w.cell? ⟨B,5,none⟩=some (.slice co u.code.length cc):=by rw [zzq2 _ _ _ _ _ _ h.box];rfl
end
theorem zdQ (w:World) (u:RUnit) (lo fo go co:Option Addr) (lc fc gc cc:Nat):UBox (w.alloc (.cells #[.string u.mdl,.int .i64 u.vsn,.slice lo u.lits.length lc,.slice fo u.funcs.length fc,.slice go u.funs.length gc,.slice co u.code.length cc] 28)) w.heap.size u lo fo go co lc fc gc cc:=⟨heap_alloc_new _ _⟩
theorem znR (u:RUnit) (lo fo go co:Option Addr) (lc fc gc cc:Nat) (n:ByteArray) (ar:Int) (w:World) (h:UP w u lo fo go co):
  Calls Tryz.prog 100 #[.agg (zzu u lo lc fo fc go gc co cc),.string n,.int .i64 ar] w fun e w'=>
   e= .returned (.tuple #[.int .i64 (zgz n ar u.funcs),.bool (zhi n ar u.funcs)])/\Below w.heap.size w w':=by
 unfold zzu;have HU:=zzH h;have r2:=h.funcsLen;have HI:Hid (zcY n ar u.funcs 0=zcY n ar (u.funcs.drop 0) 0):=zzH rfl;clear h;go_in;go_wp2_with fail;have hbx:=zdQ w u lo fo go co lc fc gc cc;have hba:Below w.heap.size w (w.alloc (.cells (zzu u lo lc fo fc go gc co cc) 28)):=(zzR _ _).alloc (zzL _) _;generalize w.alloc (.cells (zzu u lo lc fo fc go gc co cc) 28)=Wa at *;have HUa:=zzH (HU.out.below hba);have HBA:=zzH hba;generalize w.heap.size=B at hbx ⊢;have b3:=hbx.c3;clear hbx hba;go_loop [6,7,8] (fun rv sv iv=> ∃k:Nat,k<=u.funcs.length/\iv= .int .i64 k/\rv= .int .i64 0/\sv= .bool false/\Hid (zcY n ar u.funcs 0=zcY n ar (u.funcs.drop k) k)) (fun _ _ iv=>u.funcs.length-(intOf iv).toNat)
 case atStart=>exact⟨0,zzZ _,rfl,rfl,rfl,HI⟩
 case round=>
  obtain⟨k,hk,rfl,rfl,rfl,HK⟩:=hrel;by_cases hlt:k<u.funcs.length
  ·obtain⟨b,off,hao,hb,q0,q1,q2,q3,s1,s2,s3⟩:=HUa.out.funcs.func hlt
   subst hao;unfold maxLen at s1;have hhit:=zoq (n:=n) (a:=ar) (i:=k) hlt;have hmiss:=zmc (n:=n) (a:=ar) (i:=k) hlt;have HH:=zzH hhit;have HM:=zzH hmiss;clear hhit hmiss;generalize u.funcs[k]=x at *;by_cases c1:x.name=n
   ·have hn:(x.name.toList==n.toList)=true:=by rw [c1];exact beq_self_eq_true _
    by_cases c2:x.arity=ar
    ·have ha:(x.arity==ar)=true:=by rw [c2];exact beq_self_eq_true _
     have E1:Hid (zgz n ar u.funcs=k):=zzH (by unfold zgz;rw [HK.out,HH.out ⟨c1,c2⟩]);have E2:Hid (zhi n ar u.funcs=true):=zzH (by unfold zhi;rw [HK.out,HH.out ⟨c1,c2⟩];rfl);clear c1 c2;go_wp2_with fail;go_ret2;exact⟨zn1 E1.out.symm E2.out.symm,HBA.out⟩
    ·have ha:(x.arity==ar)=false:=zzB.2 c2
     have HK2:Hid (zcY n ar u.funcs 0=zcY n ar (u.funcs.drop (k+1)) (k+1)):=zzH (by rw [HK.out,HM.out (fun h=>c2 h.2)]);clear c1 c2;exact zz1
   ·have hn:(x.name.toList==n.toList)=false:=by
     rw [zzq10,zzq10,zzq5];exact fun e=>c1 (ByteArray.ext (by simpa using e))
    have HK2:Hid (zcY n ar u.funcs 0=zcY n ar (u.funcs.drop (k+1)) (k+1)):=zzH (by rw [HK.out,HM.out (fun h=>c1 h.1)]);clear c1;exact zz1
  ·have E:Hid (zcY n ar u.funcs 0=none):=zzH (by rw [HK.out,zzq6 (by omega)];rfl)
   have E1:Hid (zgz n ar u.funcs=0):=zzH (by unfold zgz;rw [E.out]);have E2:Hid (zhi n ar u.funcs=false):=zzH (by unfold zhi;rw [E.out];rfl);go_wp2_with fail;go_ret2;exact⟨zn1 E1.out.symm E2.out.symm,HBA.out⟩
def wi (n a b:Int):Bool:=decide (a<=n)&&decide (n<=b)
theorem zeq {n a b:Int} (h:a<=n) (h':n<=b):wi n a b=true:=by unfold wi;rw [decide_eq_true h,decide_eq_true h'];rfl
theorem zdN {n a b:Int} (h: ¬(a<=n/\n<=b)):wi n a b=false:=by
 unfold wi;by_cases h1:a<=n
 ·rw [decide_eq_true h1,decide_eq_false (fun h2=>h ⟨h1,h2⟩)];rfl
 ·rw [decide_eq_false h1];rfl
theorem zX (n a b:Int) (w:World):
  Calls Tryz.prog 64 #[.int .i64 n,.int .i64 a,.int .i64 b] w fun e w'=>e= .returned (.bool (wi n a b))/\w=w':=by
 by_cases h1:a<=n
 ·exact zz2
 ·exact zz3
def zbv (nl:Nat) (a:RArg):Bool:=if a.kind=1 then wi a.n 0 255 else if a.kind=2 then wi a.n 0 8191 else if a.kind=3 then wi a.n 0 ((nl:Int)-1)else false
theorem zfc (B:Nat) (u:RUnit) (lo fo go co:Option Addr) (lc fc gc cc:Nat) (a:RArg) (w:World) (hb:UBox w B u lo fo go co lc fc gc cc) (hl:u.lits.length<=9223372036854775807) (ha:I64 a.kind/\I64 a.n):
  Calls Tryz.prog 66 #[.pointer (some ⟨B,0,none⟩),.agg #[.int .i64 a.kind,.int .i64 a.n]] w fun e w'=>e= .returned (.bool (zbv u.lits.length a))/\Below w.heap.size w w':=by
 have hbe:Below w.heap.size w (w.alloc (.cells #[.int .i64 a.kind,.int .i64 a.n] 59)):=(zzR _ _).alloc (zzL _) _;have b2:=(hb.below hbe).c2;have hlt:=hb.lt;obtain⟨⟨x1,x2⟩,⟨y1,y2⟩⟩:=ha;obtain⟨ak,an⟩:=a;simp only at x1 x2 y1 y2;by_cases k1:ak=1
 ·subst k1
  have E:Hid (zbv u.lits.length ⟨1,an⟩=wi an 0 255):=zzH rfl;exact zz4
 ·by_cases k2:ak=2
  ·subst k2
   have E:Hid (zbv u.lits.length ⟨2,an⟩=wi an 0 8191):=zzH rfl;clear k1;exact zz4
  ·by_cases k3:ak=3
   ·subst k3
    have E:Hid (zbv u.lits.length ⟨3,an⟩=wi an 0 ((u.lits.length:Int)-1)):=zzH rfl;clear k1 k2;generalize u.lits.length=nl at *;have hw1:IntKind.i64.wrap ((nl:Int)-1)=(nl:Int)-1:=by rw [zzq3];omega
    go_in;go_wp2_with fail;go_quiet ((go_at_call 64;exact Calls.quiet_of_same ((zX _ _ _ _).mono fun _ _ ⟨a,b⟩=>⟨a,b.symm⟩)));go_wp2_with fail;go_ret;exact⟨zr E.out.symm,zY hbe _⟩
   ·have E:Hid (zbv u.lits.length ⟨ak,an⟩=false):=zzH (by unfold zbv;rw [if_neg k1,if_neg k2,if_neg k3])
    have t1:(ak==1)=false:=zzB.2 k1;have t2:(ak==2)=false:=zzB.2 k2;have t3:(ak==3)=false:=zzB.2 k3;clear k1 k2 k3;go_in;exact zz5
def rowT:List (Int × Int × Int):=[(0,0,0),(3,1,1),(131,0,255),(131,2,2),(135,0,200),(7,1,1),(3,1,1),(3,1,1),(64,0,0),(70,1,1),(66,1,1),(66,2,2),(82,1,1),(203,0,255),(139,0,3),(12,0,0),(4,0,0),(4,0,0),(6,2,2),(6,2,2),(6,1,1),(6,1,1),(2,2,3),(2,2,3),(4,0,0),(0,0,0),(0,0,0),(2,2,2),(64,0,0),(0,0,0),(66,1,1),(199,1,1),(199,1,1),(197,0,0),(64,0,0),(161,0,0),(2,0,1),(64,0,0),(0,0,0),(64,0,0),(64,0,0)]
def RowsAt (w:World):Prop:=0<w.heap.size/\ ∀k (h:k<41),w.cell? ⟨0,k*3,none⟩=some (.int .i64 (rowT[k]'h).1)/\w.cell? ⟨0,k*3+1,none⟩=some (.int .i64 (rowT[k]'h).2.1)/\w.cell? ⟨0,k*3+2,none⟩=some (.int .i64 (rowT[k]'h).2.2)
theorem RowsAt.below {w w':World} (h:RowsAt w) (hb:Below w.heap.size w w'):RowsAt w':=
 ⟨zzW h.1 hb.size,fun k hk=>by
  obtain⟨a,b,c⟩:=h.2 k hk;exact⟨(hb.cell (p:=⟨0,k*3,none⟩) h.1).trans a,(hb.cell (p:=⟨0,k*3+1,none⟩) h.1).trans b,(hb.cell (p:=⟨0,k*3+2,none⟩) h.1).trans c⟩⟩
theorem zbb {fn:Func} {p u:Tmp} {ty:TypeId} (h:fn.results=#[.cell p ty,.tmp u]) (tmps:Array Value) (P:Program) (w:World) (g:Nat) (t:TypeId) (cs:Array Value) (fr:Nat × Nat) (fs:Array Field)
  (hp:tmps.getD p undef= .pointer (some ⟨g,0,none⟩)) (hg:w.heap[g]?=some (.cells cs t fr))
  (hu:P.underlying ty=some (.struct fs)) (hi:(P.info? ty).map (·.size)=some cs.size):
  (results fn tmps).run P w= .ok (.tuple #[.agg cs,tmps.getD u undef]) w:=by
 have hl:=run_loadVar_row w g t ty cs fr (.struct fs) hg hu rfl hi;rw [results_cell_tmp h,hp];simp [asAddr,hl,Result.andThen]
theorem znM (k:Nat) (h1:1<=k) (h2:k<41) (w:World) (hr:RowsAt w):
  Calls Tryz.prog 33 #[.int .i64 k] w fun e w'=>e= .returned (.tuple #[.agg #[.int .i64 (rowT[k]'h2).1,.int .i64 (rowT[k]'h2).2.1,.int .i64 (rowT[k]'h2).2.2],.bool true])/\Below w.heap.size w w':=by
 obtain⟨c0,c1,c2⟩:=hr.2 k h2;have hlt:=hr.1;generalize rowT[k]'h2=x at *;obtain⟨x0,x1,x2⟩:=x;simp only at c0 c1 c2;go_in;go_wp2;refine bodyPost_ret (zbb rfl _ _ _ w.heap.size _ _ _ _ rfl (heap_alloc_new _ _) Tryz.underlying87 (by kernel_rfl)) rfl ?_;exact⟨rfl,(zzR _ _).alloc (zzL _) _⟩
theorem zjX (op:Int) (h: ¬(1<=op/\op<=40)) (w:World):
  Calls Tryz.prog 33 #[.int .i64 op] w fun e w'=>e= .returned (.tuple #[.agg #[.int .i64 0,.int .i64 0,.int .i64 0],.bool false])/\Below w.heap.size w w':=by
 by_cases h1:op<1
 ·exact zz6
 ·have h2:40<op:=by omega
  exact zz6
def zm (h f:Nat):Bool:=decide (h&&&f≠0)
theorem zhj (a b:Nat) (ha:a<9223372036854775808) (hb:b<9223372036854775808):bits .and .i64 (a:Int) (b:Int)=((a&&&b:Nat):Int):=by
 have hx:a&&&b<2^63:=Nat.and_lt_two_pow _ (by omega)
 have h1:(BitVec.ofInt 64 (a:Int)).toNat=a:=by
  exact zz7
 have h2:(BitVec.ofInt 64 (b:Int)).toNat=b:=by
  exact zz7
 show IntKind.i64.wrap ((BitVec.ofInt 64 (a:Int)&&&BitVec.ofInt 64 (b:Int)).toNat:Int)=_;rw [BitVec.toNat_and,h1,h2,zzq3];omega
theorem ze8 (h f:Nat) (z:Int) (hz:z=f) (C:Nat) (w:World) (hc:w.cell? ⟨C,0,none⟩=some (.int .i64 h)) (h1:h<1000) (h2:f<1000):
  Calls Tryz.prog 65 #[.int .i64 z,.pointer (some ⟨C,0,none⟩)] w fun e w'=>e= .returned (.bool (zm h f))/\w=w':=by
 subst hz;have ha:=zhj h f (by omega) (by omega)
 have E:Hid ((((h&&&f:Nat):Int)!=0)=zm h f):=zzH (by
  unfold zm;by_cases c:h&&&f=0
  ·rw [c];rfl
  ·rw [decide_eq_true c];rw [bne_iff_ne];omega)
 generalize h&&&f=x at *;go_in;go_wp2;go_ret;exact⟨zr E.out,rfl⟩
structure IBox (w:World) (b o:Nat) (x:RIns) (so co go:Option Addr) (sc cc gc:Nat):Prop where
 lt:b<w.heap.size
 c0:w.cell? ⟨b,o,none⟩=some (.int .i64 x.op)
 c1:w.cell? ⟨b,o+1,none⟩=some (.int .i64 x.dst.kind)
 c2:w.cell? ⟨b,o+2,none⟩=some (.int .i64 x.dst.n)
 c3:w.cell? ⟨b,o+3,none⟩=some (.slice so x.src.length sc)
 c4:w.cell? ⟨b,o+4,none⟩=some (.int .i64 x.to)
 c5:w.cell? ⟨b,o+5,none⟩=some (.int .i64 x.n)
 c6:w.cell? ⟨b,o+6,none⟩=some (.int .i64 x.live)
 c7:w.cell? ⟨b,o+7,none⟩=some (.string x.name)
 c8:w.cell? ⟨b,o+8,none⟩=some (.slice co x.cases.length cc)
 c9:w.cell? ⟨b,o+9,none⟩=some (.slice go x.segs.length gc)
 src:SlAt w 2 zdj so x.src
 cases:SlAt w 2 zcR co x.cases
 segs:SlAt w 6 zdk go x.segs
 rop:I64 x.op
 rdk:I64 x.dst.kind
 rdn:I64 x.dst.n
 rsrc:x.src.length<=9223372036854775807
 rto:I64 x.to
 rn:I64 x.n
 rlive:I64 x.live
 rname:x.name.size<=9223372036854775807
 rcases:x.cases.length<=9223372036854775807
 rsegs:x.segs.length<=9223372036854775807
theorem IBox.below {w w':World} {b o:Nat} {x:RIns} {so co go:Option Addr} {sc cc gc:Nat} (h:IBox w b o x so co go sc cc gc) (hb:Below w.heap.size w w'):IBox w' b o x so co go sc cc gc:=
 ⟨zzW h.lt hb.size,(hb.cell (p:=⟨b,o,none⟩) h.lt).trans h.c0,(hb.cell (p:=⟨b,o+1,none⟩) h.lt).trans h.c1,(hb.cell (p:=⟨b,o+2,none⟩) h.lt).trans h.c2,(hb.cell (p:=⟨b,o+3,none⟩) h.lt).trans h.c3,(hb.cell (p:=⟨b,o+4,none⟩) h.lt).trans h.c4,
  (hb.cell (p:=⟨b,o+5,none⟩) h.lt).trans h.c5,(hb.cell (p:=⟨b,o+6,none⟩) h.lt).trans h.c6,(hb.cell (p:=⟨b,o+7,none⟩) h.lt).trans h.c7,(hb.cell (p:=⟨b,o+8,none⟩) h.lt).trans h.c8,(hb.cell (p:=⟨b,o+9,none⟩) h.lt).trans h.c9,
  h.src.mono hb fun _ _ h=>h,h.cases.mono hb fun _ _ h=>h,h.segs.mono hb fun _ _ h=>h,h.rop,h.rdk,h.rdn,h.rsrc,h.rto,h.rn,h.rlive,h.rname,h.rcases,h.rsegs⟩
theorem ze4 {w:World} {ao:Option Addr} {l:List RIns} (h:SlAt w 10 (InsR w) ao l) {k:Nat} (hk:k<l.length): ∃b off so co go sc cc gc,ao=some ⟨b,off,none⟩/\IBox w b (off+k*10) l[k] so co go sc cc gc:=by
 obtain⟨b,off,so,sc,co,cc,go,gc,e,hb,c0,c1,c2,c3,c4,c5,c6,c7,c8,c9,s1,s2,s3,r1,r2,r3,r4,r5,r6,r7,r8,r9,r10⟩:=h.ins hk;exact⟨b,off,so,co,go,sc,cc,gc,e,hb,c0,c1,c2,c3,c4,c5,c6,c7,c8,c9,s1,s2,s3,r1,r2,r3,r4,r5,r6,r7,r8,r9,r10⟩
def zfw (nl:Nat) (x:RIns) (h:Nat):Bool:=if zm h 1=true then !decide (x.dst.kind=3)&&zbv nl x.dst else decide (x.dst.kind=0)&&decide (x.dst.n=0)
def zbd (nl:Nat) (x:RIns) (h lo hi:Nat):Bool:=
 zfw nl x h&&(x.src.all (zbv nl)&&(wi x.src.length lo hi&&(wi x.live 0 256&&((zm h 4||x.n==0)&&((zm h 8||x.name.toList.isEmpty)&&((zm h 64||x.to==0)&&((zm h 128||x.live==0)&&((zm h 16||x.cases.length==0)&&(zm h 32||x.segs.length==0)))))))))
theorem zlN (B:Nat) (u:RUnit) (lo' fo go' co':Option Addr) (lc fc gc' cc':Nat) (b o:Nat) (x:RIns) (so co go:Option Addr) (sc cc gc:Nat) (h lo hi:Nat) (w:World) (hu:UBox w B u lo' fo go' co' lc fc gc' cc') (hl:u.lits.length<=9223372036854775807) (hx:IBox w b o x so co go sc cc gc) (h1:h<1000) (h2:lo<1000) (h3:hi<1000):
  Calls Tryz.prog 41 #[.pointer (some ⟨B,0,none⟩),.pointer (some ⟨b,o,none⟩),.agg #[.int .i64 h,.int .i64 lo,.int .i64 hi]] w fun e w'=>e= .returned (.bool (zbd u.lits.length x h lo hi))/\Below w.heap.size w w':=by
 have hbe:Below w.heap.size w (w.alloc (.cells #[.int .i64 h,.int .i64 lo,.int .i64 hi] 87)):=(zzR _ _).alloc (zzL _) _;have HU:=zzH (hu.below hbe);have HX:=zzH (hx.below hbe);have hlt:=hx.lt;have hC:(w.alloc (.cells #[.int .i64 h,.int .i64 lo,.int .i64 hi] 87)).heap[w.heap.size]?=some (.cells #[.int .i64 h,.int .i64 lo,.int .i64 hi] 87 (0,0)):=heap_alloc_new _ _
 clear hu hx;go_in;go_wp2_with fail;generalize w.alloc (.cells #[.int .i64 h,.int .i64 lo,.int .i64 hi] 87)=Wa at *;have HBA:=zzH hbe;generalize hCC:w.heap.size=C at hC ⊢;have hc0:Wa.cell? ⟨C,0,none⟩=some (.int .i64 h):=by rw [zzq2 _ _ _ _ _ _ hC];rfl
 have i1:=HX.out.c1;have i2:=HX.out.c2;have i3:=HX.out.c3;have hs3:=HX.out.rsrc;refine(ze8 h 1 _ rfl C _ hc0 (by omega) (by omega)).mono ?_;rintro e w' ⟨rfl,rfl⟩;have HD1:Hid (zm h 1=zm h 1):=zzH rfl;generalize hq1:zm h 1=q1 at *;have HQ1:=zzH hq1;clear hq1;go_upto_if 12 with(fail);go_cut [] (fun wx=>Hid (zfw u.lits.length x h=true)/\Below Wa.heap.size Wa wx)
 case first=>
  cases q1 with
  |true=>
   cases hd2:decide (x.dst.kind=3)with
   |true=>
    have E:Hid (zbd u.lits.length x h lo hi=false):=zzH (by unfold zbd zfw;rw [HQ1.out,hd2];rfl);have hk:(x.dst.kind==3)=true:=by rw [of_decide_eq_true hd2];rfl
    clear hd2;exact zz5
   |false=>
    have hk:(x.dst.kind==3)=false:=by rw [zzq5];exact of_decide_eq_false hd2
    have hop:=zfc B u lo' fo go' co' lc fc gc' cc' x.dst _ HU.out hl ⟨HX.out.rdk,HX.out.rdn⟩
    cases hq:zbv u.lits.length x.dst with
    |false=>
     have E:Hid (zbd u.lits.length x h lo hi=false):=zzH (by unfold zbd zfw;rw [HQ1.out,hd2,hq];rfl);rw [hq]at hop;clear hd2 hq;go_wp2_with fail;refine hop.mono ?_;rintro e w5 ⟨rfl,hb5⟩;go_wp2_with fail;go_ret;exact⟨zr E.out.symm,hbe.trans (hb5.mono hbe.size)⟩
    |true=>
     have HDST:Hid (zfw u.lits.length x h=true):=zzH (by unfold zfw;rw [HQ1.out,hd2,hq];rfl);rw [hq]at hop;clear hd2 hq;go_wp2_with fail;refine hop.mono ?_;rintro e w5 ⟨rfl,hB0⟩;go_wp2_with fail;go_meet
     case rel=>exact⟨HDST,hB0⟩
  |false=>
   by_cases z1:x.dst.kind=0
   ·have y1:(x.dst.kind==0)=true:=by rw [z1];rfl
    by_cases z2:x.dst.n=0
    ·have y2:(x.dst.n==0)=true:=by rw [z2];rfl
     have HDST:Hid (zfw u.lits.length x h=true):=zzH (by unfold zfw;rw [HQ1.out,decide_eq_true z1,decide_eq_true z2];rfl);clear z1 z2;go_wp2_with fail;go_meet
     case rel=>exact⟨HDST,zzR _ _⟩
    ·have y2:(x.dst.n==0)=false:=zzB.2 z2
     have E:Hid (zbd u.lits.length x h lo hi=false):=zzH (by unfold zbd zfw;rw [HQ1.out,decide_eq_true z1,decide_eq_false z2];rfl);clear z1 z2;exact zz5
   ·have y1:(x.dst.kind==0)=false:=zzB.2 z1
    have E:Hid (zbd u.lits.length x h lo hi=false):=zzH (by unfold zbd zfw;rw [HQ1.out,decide_eq_false z1];rfl);clear z1;exact zz5
 case rest=>
  obtain⟨HDST,hB0⟩:=hcut;rename_i w5;have i3:=(HX.out.below hB0).c3;go_wp2_with fail;go_loopw [39] (fun iv wr=> ∃k:Nat,k<=x.src.length/\iv= .int .i64 k/\Hid (∀j (h:j<x.src.length),j<k->zbv u.lits.length x.src[j]=true)/\Below Wa.heap.size Wa wr) (fun iv _=>x.src.length-(intOf iv).toNat)
  case atStart=>exact⟨0,zzZ _,rfl,zzH (fun j _ h=>absurd h (Nat.not_lt_zero _)),hB0⟩
  case round=>
   obtain⟨k,hk,rfl,HK,hB⟩:=hrel;rename World=>wr
   have ib:=HX.out.below hB;have ub:=HU.out.below hB;by_cases hlt:k<x.src.length
   ·obtain⟨b2,off,hao,hb2,q0,q1,r0,r1⟩:=ib.src.arg hlt
    subst hao
    have HE:Hid (zbv u.lits.length x.src[k]=false->zbd u.lits.length x h lo hi=false):=zzH (fun hf=>by
     unfold zbd
     have:x.src.all (zbv u.lits.length)=false:=by
      rw [List.all_eq_false];exact⟨x.src[k],List.getElem_mem hlt,by rw [hf];decide⟩
     rw [this];simp)
    have HN:Hid (zbv u.lits.length x.src[k]=true-> ∀j (h:j<x.src.length),j<k+1->zbv u.lits.length x.src[j]=true):=zzH (fun hne j h hj=>by
     rcases Nat.eq_or_lt_of_le (Nat.le_of_lt_succ hj)with e|e
     ·subst e;exact hne
     ·exact HK.out j h e)
    generalize x.src[k]=a at *;have hba:=(zzR wr.heap.size wr).alloc (zzL _) (.cells #[.int .i64 a.kind,.int .i64 a.n] 59);have hop:=zfc B u lo' fo go' co' lc fc gc' cc' a _ (ub.below hba) hl ⟨r0,r1⟩;clear ib ub
    cases hq:zbv u.lits.length a with
    |false=>
     have E:=zzH (HE.out hq);rw [hq]at hop;clear hq;go_wp2_with fail;refine hop.mono ?_;rintro e w5 ⟨rfl,hb5⟩;go_wp2_with fail;go_ret;exact⟨zr E.out.symm,HBA.out.trans ((hB.trans ((hba.trans (hb5.mono (by simp))).mono hB.size)).mono HBA.out.size)⟩
    |true=>
     have HN2:=zzH (HN.out hq);rw [hq]at hop;clear hq;go_wp2_with fail;refine hop.mono ?_;rintro e w5 ⟨rfl,hb5⟩;go_wp2_with fail;go_roundw
     case rel=>exact⟨k+1,by omega,by go_num,HN2,hB.trans ((hba.trans (hb5.mono (by simp))).mono hB.size)⟩
     case measure=>simp [intOf];omega
   ·have HALL:Hid (x.src.all (zbv u.lits.length)=true):=zzH (by
     rw [List.all_eq_true];intro a ha;obtain⟨j,hj,rfl⟩:=List.getElem_of_mem ha;exact HK.out j hj (by omega))
    have hC2:=(hB.block C (zc hC)).trans hC;obtain ⟨hcW,hcL,hcH⟩:=zzc3 hC2;have d3:=ib.c3;have d4:=ib.c4;have d5:=ib.c5;have d6:=ib.c6;have d7:=ib.c7;have d8:=ib.c8;have d9:=ib.c9;have hsrc:=ib.rsrc;clear ib ub hC2
    have HF:Hid (zbd u.lits.length x h lo hi=(wi x.src.length lo hi&&(wi x.live 0 256&&((zm h 4||x.n==0)&&((zm h 8||x.name.toList.isEmpty)&&((zm h 64||x.to==0)&&((zm h 128||x.live==0)&&((zm h 16||x.cases.length==0)&&(zm h 32||x.segs.length==0))))))))):=zzH (by
     unfold zbd;rw [HDST.out,HALL.out];rfl)
    have hBZ:=HBA.out.trans (hB.mono HBA.out.size)
    cases hw1:wi x.src.length lo hi with
    |false=>
     have E:Hid (zbd u.lits.length x h lo hi=false):=zzH (by rw [HF.out,hw1];rfl);go_wp2_with fail;go_quiet ((go_at_call 64;exact Calls.quiet_of_same ((zX _ _ _ _).mono fun _ _ ⟨a,b⟩=>⟨a,b.symm⟩)));go_wp2_with fail;go_ret;exact⟨zr E.out.symm,zY hBZ _⟩
    |true=>
     go_wp2_with fail;go_quiet ((go_at_call 64;exact Calls.quiet_of_same ((zX _ _ _ _).mono fun _ _ ⟨a,b⟩=>⟨a,b.symm⟩)));have HBQ:=zzH hBZ
     cases hw2:wi x.live 0 256 with
     |false=>
      have E:Hid (zbd u.lits.length x h lo hi=false):=zzH (by rw [HF.out,hw1,hw2];rfl);go_wp2_with (go_at_call 64;refine(zX _ _ _ _).mono ?_;rintro e w1 ⟨rfl,rfl⟩);go_ret;exact⟨zr E.out.symm,zY hBZ _⟩
     |true=>
      have HF2:Hid (zbd u.lits.length x h lo hi=((zm h 4||x.n==0)&&((zm h 8||x.name.toList.isEmpty)&&((zm h 64||x.to==0)&&((zm h 128||x.live==0)&&((zm h 16||x.cases.length==0)&&(zm h 32||x.segs.length==0))))))):=zzH (by rw [HF.out,hw1,hw2];rfl);clear HF;have HQ0:=zzH hcW;go_upto_region 16 with(go_at_call 64;refine(zX _ _ _ _).mono ?_;rintro e w1 ⟨rfl,rfl⟩);have hBW:=zY hBZ nq;have d3':=zzH d3;have d4':=zzH d4;have d5':=zzH d5;have d6':=zzH d6;have d7':=zzH d7;have d8':=zzH d8;have d9':=zzH d9;clear d3 d4 d5 d6 d7 d8 d9 hcW hcL hcH;generalize hWQ:wr.drewN nq=Wq at *;have hcW:Wq.cell? ⟨C,0,none⟩=some (.int .i64 h):=by rw [<-hWQ];exact HQ0.out
      have d4:=d4'.out;rw [show wr.cell?=Wq.cell? from by rw [<-hWQ];rfl]at d4;have d5:=d5'.out;rw [show wr.cell?=Wq.cell? from by rw [<-hWQ];rfl]at d5;have d6:=d6'.out;rw [show wr.cell?=Wq.cell? from by rw [<-hWQ];rfl]at d6;have d7:=d7'.out;rw [show wr.cell?=Wq.cell? from by rw [<-hWQ];rfl]at d7;have d8:=d8'.out;rw [show wr.cell?=Wq.cell? from by rw [<-hWQ];rfl]at d8;have d9:=d9'.out;rw [show wr.cell?=Wq.cell? from by rw [<-hWQ];rfl]at d9;clear hWQ;have HG0:Hid (zbd u.lits.length x h lo hi=((zm h 4||x.n==0)&&((zm h 8||x.name.toList.isEmpty)&&((zm h 64||x.to==0)&&((zm h 128||x.live==0)&&((zm h 16||x.cases.length==0)&&(zm h 32||x.segs.length==0))))))):=zzH (by rw [HF2.out]);have hh:=fun wx (hc:wx.cell? ⟨C,0,none⟩=some (.int .i64 h))=>ze8 h 4 4 rfl C wx hc (by omega) (by omega)
      go_cut [66] (fun sv wx=> ∃v:Bool,sv= .bool v/\Hid ((zm h 4||x.n==0)= !v)/\Wq=wx)
      case first=>
       go_wp2_with fail;refine(hh _ hcW).mono ?_;rintro e w1 ⟨rfl,rfl⟩
       cases hq4:zm h 4
       ·exact zz8
       ·exact zz8
      case rest=>
       obtain⟨v,rfl,HV00,rfl⟩:=hcut;clear hh
       cases v with
       |true=>
        have E:Hid (zbd u.lits.length x h lo hi=false):=zzH (by rw [HG0.out,HV00.out];rfl);exact zz9
       |false=>
        have HV0:Hid ((zm h 4||x.n==0)=true):=zzH (by rw [HV00.out];rfl);go_upto_region 17 with fail;have HG1:Hid (zbd u.lits.length x h lo hi=((zm h 8||x.name.toList.isEmpty)&&((zm h 64||x.to==0)&&((zm h 128||x.live==0)&&((zm h 16||x.cases.length==0)&&(zm h 32||x.segs.length==0)))))):=zzH (by rw [HG0.out,HV0.out,Bool.true_and]);have hh:=fun wx (hc:wx.cell? ⟨C,0,none⟩=some (.int .i64 h))=>ze8 h 8 8 rfl C wx hc (by omega) (by omega)
        go_cut [66] (fun sv wx=> ∃v:Bool,sv= .bool v/\Hid ((zm h 8||x.name.toList.isEmpty)= !v)/\Wq=wx)
        case first=>
         go_wp2_with fail;refine(hh _ hcW).mono ?_;rintro e w1 ⟨rfl,rfl⟩
         cases hq4:zm h 8
         ·exact zz8
         ·exact zz8
        case rest=>
         obtain⟨v,rfl,HV10,rfl⟩:=hcut;clear hh
         cases v with
         |true=>
          have E:Hid (zbd u.lits.length x h lo hi=false):=zzH (by rw [HG1.out,HV10.out];rfl);exact zz9
         |false=>
          have HV1:Hid ((zm h 8||x.name.toList.isEmpty)=true):=zzH (by rw [HV10.out];rfl);go_upto_region 18 with fail;have HG2:Hid (zbd u.lits.length x h lo hi=((zm h 64||x.to==0)&&((zm h 128||x.live==0)&&((zm h 16||x.cases.length==0)&&(zm h 32||x.segs.length==0))))):=zzH (by rw [HG1.out,HV1.out,Bool.true_and]);have hh:=fun wx (hc:wx.cell? ⟨C,0,none⟩=some (.int .i64 h))=>ze8 h 64 64 rfl C wx hc (by omega) (by omega)
          go_cut [66] (fun sv wx=> ∃v:Bool,sv= .bool v/\Hid ((zm h 64||x.to==0)= !v)/\Wq=wx)
          case first=>
           go_wp2_with fail;refine(hh _ hcW).mono ?_;rintro e w1 ⟨rfl,rfl⟩
           cases hq4:zm h 64
           ·exact zz8
           ·exact zz8
          case rest=>
           obtain⟨v,rfl,HV20,rfl⟩:=hcut;clear hh
           cases v with
           |true=>
            have E:Hid (zbd u.lits.length x h lo hi=false):=zzH (by rw [HG2.out,HV20.out];rfl);exact zz9
           |false=>
            have HV2:Hid ((zm h 64||x.to==0)=true):=zzH (by rw [HV20.out];rfl);go_upto_region 19 with fail;have HG3:Hid (zbd u.lits.length x h lo hi=((zm h 128||x.live==0)&&((zm h 16||x.cases.length==0)&&(zm h 32||x.segs.length==0)))):=zzH (by rw [HG2.out,HV2.out,Bool.true_and]);have hh:=fun wx (hc:wx.cell? ⟨C,0,none⟩=some (.int .i64 h))=>ze8 h 128 128 rfl C wx hc (by omega) (by omega)
            go_cut [66] (fun sv wx=> ∃v:Bool,sv= .bool v/\Hid ((zm h 128||x.live==0)= !v)/\Wq=wx)
            case first=>
             go_wp2_with fail;refine(hh _ hcW).mono ?_;rintro e w1 ⟨rfl,rfl⟩
             cases hq4:zm h 128
             ·exact zz8
             ·exact zz8
            case rest=>
             obtain⟨v,rfl,HV30,rfl⟩:=hcut;clear hh
             cases v with
             |true=>
              have E:Hid (zbd u.lits.length x h lo hi=false):=zzH (by rw [HG3.out,HV30.out];rfl);exact zz9
             |false=>
              have HV3:Hid ((zm h 128||x.live==0)=true):=zzH (by rw [HV30.out];rfl);go_upto_region 21 with fail;have HG4:Hid (zbd u.lits.length x h lo hi=((zm h 16||x.cases.length==0)&&(zm h 32||x.segs.length==0))):=zzH (by rw [HG3.out,HV3.out,Bool.true_and]);have hh:=fun wx (hc:wx.cell? ⟨C,0,none⟩=some (.int .i64 h))=>ze8 h 16 16 rfl C wx hc (by omega) (by omega)
              go_cut [107] (fun sv wx=> ∃v:Bool,sv= .bool v/\Hid ((zm h 16||x.cases.length==0)= !v)/\Wq=wx)
              case first=>
               go_wp2_with fail;refine(hh _ hcW).mono ?_;rintro e w1 ⟨rfl,rfl⟩
               cases hq4:zm h 16
               ·exact zz8
               ·exact zz8
              case rest=>
               obtain⟨v,rfl,HV40,rfl⟩:=hcut;clear hh
               cases v with
               |true=>
                have E:Hid (zbd u.lits.length x h lo hi=false):=zzH (by rw [HG4.out,HV40.out];rfl);exact zz9
               |false=>
                have HV4:Hid ((zm h 16||x.cases.length==0)=true):=zzH (by rw [HV40.out];rfl);go_upto_region 22 with fail;have HG5:Hid (zbd u.lits.length x h lo hi=(zm h 32||x.segs.length==0)):=zzH (by rw [HG4.out,HV4.out,Bool.true_and]);have hh:=fun wx (hc:wx.cell? ⟨C,0,none⟩=some (.int .i64 h))=>ze8 h 32 32 rfl C wx hc (by omega) (by omega)
                go_cut [107] (fun sv wx=> ∃v:Bool,sv= .bool v/\Hid ((zm h 32||x.segs.length==0)= !v)/\Wq=wx)
                case first=>
                 go_wp2_with fail;refine(hh _ hcW).mono ?_;rintro e w1 ⟨rfl,rfl⟩
                 cases hq4:zm h 32
                 ·exact zz8
                 ·exact zz8
                case rest=>
                 obtain⟨v,rfl,HV50,rfl⟩:=hcut;clear hh
                 cases v with
                 |true=>
                  have E:Hid (zbd u.lits.length x h lo hi=false):=zzH (by rw [HG5.out,HV50.out];rfl);exact zz9
                 |false=>
                  have HV5:Hid ((zm h 32||x.segs.length==0)=true):=zzH (by rw [HV50.out];rfl);have E:Hid (zbd u.lits.length x h lo hi=true):=zzH (by rw [HG5.out,HV5.out]);exact zz9
def zbo (i b:Nat):Bool:=decide (97<=b/\b<=122∨0<i/\(65<=b/\b<=90∨48<=b/\b<=57∨b=95∨b=64))
def zB (s:ByteArray):Bool:=decide (0<s.size)&&decide (s.size<=32)&&decide (∀i,(h:i<s.size)->zbo i s[i].toNat=true)
theorem zg6 {s:ByteArray} {i:Nat} (h:i<s.size) (e:zbo i s[i].toNat=false):zB s=false:=by
 unfold zB
 have:decide (∀i,(h:i<s.size)->zbo i s[i].toNat=true)=false:=by
  apply zzD;intro hh;have:=hh i h;rw [e]at this;simp at this
 rw [this,Bool.and_false]
theorem zhV {s:ByteArray} (h0:0<s.size) (h1:s.size<=32) (h: ∀i,(h:i<s.size)->zbo i s[i].toNat=true):zB s=true:=by
 unfold zB;rw [decide_eq_true h0,decide_eq_true h1,decide_eq_true h];rfl
theorem ziJ {i b:Nat} (h:123<=b):zbo i b=false:=by unfold zbo;apply zzD;omega
theorem zf1 {s:ByteArray} (h: ¬(0<s.size/\s.size<=32)):zB s=false:=by
 unfold zB;by_cases h0:0<s.size
 ·rw [decide_eq_false (p:=s.size<=32) (by omega),Bool.and_false,Bool.false_and]
 ·rw [decide_eq_false h0,Bool.false_and,Bool.false_and]
theorem zrf (s:ByteArray) (pos:Nat) (hp:pos<s.size):zbo pos (Utf8.decode s pos).1=zbo pos s[pos].toNat/\(zbo pos s[pos].toNat=true->(Utf8.decode s pos).2=1):=by
 by_cases ha:s[pos].toNat<128
 ·rw [decode_ascii s pos hp ha];exact⟨rfl,fun _=>rfl⟩
 ·have h:=(decode_high s pos hp (by omega)).1
  rw [ziJ (by omega),ziJ (by omega)];exact⟨rfl,fun e=>by simp at e⟩
theorem zdM (w:World) (s:ByteArray) (pos:Nat):Below w.heap.size w (w.iter s pos):=(zzR _ _).alloc (zzL _) _
theorem zeb (s:ByteArray) (w:World):Calls Tryz.prog 63 #[.string s] w fun e w'=>e= .returned (.bool (zB s))/\Below w.heap.size w w':=by
 have HL:Hid (¬(0<s.size/\s.size<=32)->zB s=false):=zzH zf1;by_cases hs0:s.size=0
 ·have he:s=ByteArray.empty:=by
   have h:s.data.size=0:=hs0;exact ByteArray.ext (Array.eq_empty_of_size_eq_zero h)
  subst he;have HV:Hid (zB ByteArray.empty=false):=zzH (zf1 (by simp));clear HL;go_in;go_wp2_with fail;go_ret;exact⟨zr HV.out.symm,zzR _ _⟩
 ·have hne: ¬s.toList= []:=by
   rw [zzq10];intro e;have h2:=congrArg List.length e;exact hs0 (by simpa using h2)
  have hne2:s.toList.isEmpty=false:=by cases h:s.toList with|nil=>exact absurd h hne|cons _ _=>rfl
  by_cases hs1:32<s.size
  ·have HV:Hid (zB s=false):=zzH (zf1 (by omega))
   have g1:decide ((32:Int)<(s.size:Int))=true:=by simp;omega
   clear HL;go_in;go_wp2_with fail;go_ret;exact⟨zr HV.out.symm,zzR _ _⟩
  ·have g1:decide ((32:Int)<(s.size:Int))=false:=by simp;omega
   clear HL;go_in;go_wp2_with fail;go_loopw [] (fun wr=> ∃pos:Nat,pos<=s.size/\wr=w.iter s pos/\Hid (∀i,(h:i<s.size)->i<pos->zbo i s[i].toNat=true)) (fun wr=>s.size-wr.iterPos w.heap.size)
   case atStart=>exact⟨0,zzZ _,rfl,zzH (fun i _ h=>absurd h (Nat.not_lt_zero _))⟩
   case round=>
    obtain⟨pos,hpl,rfl,HG⟩:=hrel;by_cases hp:pos<s.size
    ·have hnx: ∀ty,(Instr.next (.pointer (some ⟨w.heap.size,0,none⟩)) true ty).run Tryz.prog (w.iter s pos)=_:=fun ty=>run_next_any w s pos ty hp
     have HR:=zzH (zrf s pos hp);have HB:Hid (zbo pos s[pos].toNat=false->zB s=false):=zzH (zg6 hp)
     have HK:Hid (zbo pos s[pos].toNat=true->(∀i,(h:i<s.size)->i<pos+1->zbo i s[i].toNat=true)):=zzH (fun e i h h1=>by
      rcases Nat.lt_or_ge i pos with h2|h2
      ·exact HG.out i h h2
      ·obtain rfl:i=pos:=by omega
       exact e)
     generalize(Utf8.decode s pos).1=c at *;generalize(Utf8.decode s pos).2=d at *;by_cases r8:97<=c/\c<=122
     ·have hc:97<=c/\c<=122:=by omega
      have q0:decide ((97:Int)<=(c:Int))=true:=by simp;omega
      have q1:decide ((c:Int)<=122)=true:=by simp;omega
      have q2:decide ((65:Int)<=(c:Int))=true:=by simp;omega
      have q3:decide ((c:Int)<=90)=false:=by simp;omega
      have q4:decide ((48:Int)<=(c:Int))=true:=by simp;omega
      have q5:decide ((c:Int)<=57)=false:=by simp;omega
      have q6:((c:Int)==95)=false:=by simp;omega
      have q7:((c:Int)==64)=false:=by simp;omega
      have hok:Hid (zbo pos c=true):=zzH (by unfold zbo;apply zzT;omega);have hok2:Hid (zbo pos s[pos].toNat=true):=zzH (by rw [<-HR.out.1];exact hok.out);obtain rfl:=HR.out.2 hok2.out;have HG2:=zzH (HK.out hok2.out);clear HG HK HB HR hok hok2;go_wp2_with fail;go_roundw
      case rel=>exact⟨_,by omega,rfl,HG2⟩
      case measure=>simp;omega
     ·by_cases hz:pos=0
      ·obtain rfl:=hz
       by_cases r10:c<=47
       ·have hc:0<=c/\c<=47:=by omega
        have q0:decide ((97:Int)<=(c:Int))=false:=by simp;omega
        have q1:decide ((c:Int)<=122)=true:=by simp;omega
        have q2:decide ((65:Int)<=(c:Int))=false:=by simp;omega
        have q3:decide ((c:Int)<=90)=true:=by simp;omega
        have q4:decide ((48:Int)<=(c:Int))=false:=by simp;omega
        exact zz14
       ·by_cases r11:c<=57
        ·have hc:48<=c/\c<=57:=by omega
         have q0:decide ((97:Int)<=(c:Int))=false:=by simp;omega
         have q1:decide ((c:Int)<=122)=true:=by simp;omega
         have q2:decide ((65:Int)<=(c:Int))=false:=by simp;omega
         have q3:decide ((c:Int)<=90)=true:=by simp;omega
         have q4:decide ((48:Int)<=(c:Int))=true:=by simp;omega
         exact zz14
        ·by_cases r12:c<=63
         ·have hc:58<=c/\c<=63:=by omega
          have q0:decide ((97:Int)<=(c:Int))=false:=by simp;omega
          have q1:decide ((c:Int)<=122)=true:=by simp;omega
          have q2:decide ((65:Int)<=(c:Int))=false:=by simp;omega
          exact zz12
         ·by_cases r13:c<=64
          ·have hc:64<=c/\c<=64:=by omega
           obtain rfl:c=64:=by omega
           have hok:Hid (zbo 0 64=false):=zzH (by unfold zbo;apply zzD;omega);exact zz15
          ·by_cases r14:c<=90
           ·have hc:65<=c/\c<=90:=by omega
            have q0:decide ((97:Int)<=(c:Int))=false:=by simp;omega
            have q1:decide ((c:Int)<=122)=true:=by simp;omega
            have q2:decide ((65:Int)<=(c:Int))=true:=by simp;omega
            exact zz12
           ·by_cases r15:c<=94
            ·have hc:91<=c/\c<=94:=by omega
             have q0:decide ((97:Int)<=(c:Int))=false:=by simp;omega
             have q1:decide ((c:Int)<=122)=true:=by simp;omega
             exact zz11
            ·by_cases r16:c<=95
             ·have hc:95<=c/\c<=95:=by omega
              obtain rfl:c=95:=by omega
              have hok:Hid (zbo 0 95=false):=zzH (by unfold zbo;apply zzD;omega);exact zz15
             ·by_cases r17:c<=96
              ·have hc:96<=c/\c<=96:=by omega
               obtain rfl:c=96:=by omega
               have hok:Hid (zbo 0 96=false):=zzH (by unfold zbo;apply zzD;omega);exact zz15
              ·have hc:123<=c:=by omega
               have q0:decide ((97:Int)<=(c:Int))=true:=by simp;omega
               have q1:decide ((c:Int)<=122)=false:=by simp;omega
               exact zz11
      ·by_cases r10:c<=47
       ·have hc:0<=c/\c<=47:=by omega
        have q0:decide ((97:Int)<=(c:Int))=false:=by simp;omega
        have q1:decide ((c:Int)<=122)=true:=by simp;omega
        have q2:decide ((65:Int)<=(c:Int))=false:=by simp;omega
        have q3:decide ((c:Int)<=90)=true:=by simp;omega
        have q4:decide ((48:Int)<=(c:Int))=false:=by simp;omega
        have q5:decide ((c:Int)<=57)=true:=by simp;omega
        exact zz204
       ·by_cases r11:c<=57
        ·have hc:48<=c/\c<=57:=by omega
         have q0:decide ((97:Int)<=(c:Int))=false:=by simp;omega
         have q1:decide ((c:Int)<=122)=true:=by simp;omega
         have q2:decide ((65:Int)<=(c:Int))=false:=by simp;omega
         have q3:decide ((c:Int)<=90)=true:=by simp;omega
         have q4:decide ((48:Int)<=(c:Int))=true:=by simp;omega
         have q5:decide ((c:Int)<=57)=true:=by simp;omega
         exact zz13
        ·by_cases r12:c<=63
         ·have hc:58<=c/\c<=63:=by omega
          have q0:decide ((97:Int)<=(c:Int))=false:=by simp;omega
          have q1:decide ((c:Int)<=122)=true:=by simp;omega
          have q2:decide ((65:Int)<=(c:Int))=false:=by simp;omega
          have q3:decide ((c:Int)<=90)=true:=by simp;omega
          have q4:decide ((48:Int)<=(c:Int))=true:=by simp;omega
          have q5:decide ((c:Int)<=57)=false:=by simp;omega
          exact zz204
         ·by_cases r13:c<=64
          ·have hc:64<=c/\c<=64:=by omega
           obtain rfl:c=64:=by omega
           have q9:decide ((0:Int)<(pos:Int))=true:=by simp;omega
           have hok:Hid (zbo pos 64=true):=zzH (by unfold zbo;apply zzT;omega);exact zz16
          ·by_cases r14:c<=90
           ·have hc:65<=c/\c<=90:=by omega
            have q0:decide ((97:Int)<=(c:Int))=false:=by simp;omega
            have q1:decide ((c:Int)<=122)=true:=by simp;omega
            have q2:decide ((65:Int)<=(c:Int))=true:=by simp;omega
            have q3:decide ((c:Int)<=90)=true:=by simp;omega
            have q4:decide ((48:Int)<=(c:Int))=true:=by simp;omega
            have q5:decide ((c:Int)<=57)=false:=by simp;omega
            exact zz13
           ·by_cases r15:c<=94
            ·have hc:91<=c/\c<=94:=by omega
             have q0:decide ((97:Int)<=(c:Int))=false:=by simp;omega
             have q1:decide ((c:Int)<=122)=true:=by simp;omega
             exact zz10
            ·by_cases r16:c<=95
             ·have hc:95<=c/\c<=95:=by omega
              obtain rfl:c=95:=by omega
              have q9:decide ((0:Int)<(pos:Int))=true:=by simp;omega
              have hok:Hid (zbo pos 95=true):=zzH (by unfold zbo;apply zzT;omega);exact zz16
             ·by_cases r17:c<=96
              ·have hc:96<=c/\c<=96:=by omega
               obtain rfl:c=96:=by omega
               have q9:decide ((0:Int)<(pos:Int))=true:=by simp;omega
               have hok:Hid (zbo pos 96=false):=zzH (by unfold zbo;apply zzD;omega);have hok2:Hid (zbo pos s[pos].toNat=false):=zzH (by rw [<-HR.out.1];exact hok.out);have HV:Hid (zB s=false):=zzH (HB.out hok2.out);clear HG HK HB HR hok hok2;exact zz208
              ·have hc:123<=c:=by omega
               have q0:decide ((97:Int)<=(c:Int))=true:=by simp;omega
               have q1:decide ((c:Int)<=122)=false:=by simp;omega
               exact zz10
    ·have hnx: ∀ty,(Instr.next (.pointer (some ⟨w.heap.size,0,none⟩)) true ty).run Tryz.prog (w.iter s pos)=_:=fun ty=>run_next_end w s pos ty hp
     have HV:Hid (zB s=true):=zzH (zhV (by omega) (by omega) (fun i h=>HG.out i h (by omega)));clear HG;exact zz208
def zI (n:Int):Bool:=decide (n=0)
def zS (s:ByteArray):Bool:=decide (s.size=0)
def zL (l:List Tm):Bool:=decide (l.length=0)
def zgo (l:List Tm):Int:=match l.getLast? with
 |some t=>t.kind
 |none=>0
def zfW (s:ByteArray):Nat:=(s.data.toList.getLast?.getD 0).toNat
def zcz (y:ByteArray) (z:Int):Bool:=(wi z 0 16384&&decide ((y.size:Int)=(z+7)/8))&&(decide (z%8=0)||decide (zfW y%2^(8-z%8).toNat=0))
def zgG (t:Tm):Bool:=zcz t.bytes t.bits
def okK (t:Tm):Bool:=
 if t.kind=1 then true
 else if t.kind=2 then zB t.name
 else if t.kind=3∨t.kind=6 then wi t.int 1 2147483647&&wi t.gen 1 2147483647&&zB t.name
 else if t.kind=4 then wi t.int 0 999&&wi t.gen 1 2147483647&&zB t.name&&wi t.arity 0 16&&decide (t.items.length<=200)
 else if t.kind=5 then zB t.name&&zB t.func&&wi t.arity 0 16
 else if t.kind=7 then decide (t.items.length<=255)
 else if t.kind=8 then true
 else if t.kind=9 then decide (2<=t.items.length)&&decide (zgo t.items≠9)
 else if t.kind=10 then zgG t
 else false
def zcW (t:Tm):Bool:=
 (decide (t.kind=1∨t.kind=3∨t.kind=4∨t.kind=6)||zI t.int) &&
 (decide (t.kind=3∨t.kind=4∨t.kind=6)||zI t.gen) &&
 (decide (t.kind=2∨t.kind=3∨t.kind=4∨t.kind=5∨t.kind=6)||zS t.name) &&
 (decide (t.kind=5)||zS t.func) &&
 (decide (t.kind=4∨t.kind=5)||zI t.arity) &&
 (decide (t.kind=4∨t.kind=7∨t.kind=9)||zL t.items) &&
 (decide (t.kind=10)||zS t.bytes) &&
 (decide (t.kind=10)||zI t.bits)
def zcH (t:Tm):Bool:=okK t&&zcW t
def zj:Nat->Tm->Bool
 |0,_=>false
 |f+1,t=>zcH t&&t.items.all (zj f)
def zbc (t:Tm):Int:=if t.kind=9 then(t.items.length:Int)-1 else if t.kind=10 then 1+(t.bits+63)/64 else 1
def zbP:List Int->Int
 |[]=>0
 |x::l=>x+zbP l
def zx:Nat->Tm->Int
 |0,_=>0
 |f+1,t=>zbc t+zbP (t.items.map (zx f))
def zD (f:Nat) (t:Tm):Bool:=zj f t&&decide (zx f t<=2000)
theorem zdu (n a b:Int) (w:World):
  Calls Tryz.prog 160 #[.int .i64 n,.int .i64 a,.int .i64 b] w fun e w'=>e= .returned (.bool (wi n a b))/\w=w':=by
 by_cases h1:a<=n
 ·exact zz2
 ·exact zz3
def zo:Array Value:=#[.int .i64 0,.int .i64 0,.int .i64 0,.string ⟨#[]⟩,.string ⟨#[]⟩,.int .i64 0,.slice none 0 0,.string ⟨#[]⟩,.int .i64 0]
theorem zem (w:World) (o p:Obj):((w.alloc o).alloc p).heap[w.heap.size]?=some o:=by
 rw [Below.heap_alloc (w.alloc o) p w.heap.size (by simp)];exact heap_alloc_new _ _
theorem zd0 (w:World) (o p:Obj):((w.alloc o).alloc p).heap[w.heap.size+1]?=some p:=by
 have:=heap_alloc_new (w.alloc o) p
 rwa [show(w.alloc o).heap.size=w.heap.size+1 by simp]at this
theorem zU (w:World) (o p:Obj):Below w.heap.size w ((w.alloc o).alloc p):=((zzR _ _).alloc (zzL _) _).alloc (by simp) _
theorem zf {w:World} {B:Nat} {v0 v1 v2 v3 v4 v5 v6 v7 v8:Value} (h:w.heap[B]?=some (.cells #[v0,v1,v2,v3,v4,v5,v6,v7,v8] 47 (0,0))):
  w.cell? ⟨B,0,none⟩=some v0/\w.cell? ⟨B,1,none⟩=some v1/\w.cell? ⟨B,2,none⟩=some v2/\w.cell? ⟨B,3,none⟩=some v3/\w.cell? ⟨B,4,none⟩=some v4/\w.cell? ⟨B,5,none⟩=some v5/\w.cell? ⟨B,6,none⟩=some v6/\w.cell? ⟨B,7,none⟩=some v7/\w.cell? ⟨B,8,none⟩=some v8 /\
   (w.frozen? ⟨B,0,none⟩=false/\w.frozen? ⟨B,1,none⟩=false/\w.frozen? ⟨B,2,none⟩=false/\w.frozen? ⟨B,3,none⟩=false/\w.frozen? ⟨B,4,none⟩=false/\w.frozen? ⟨B,5,none⟩=false/\w.frozen? ⟨B,6,none⟩=false/\w.frozen? ⟨B,7,none⟩=false/\w.frozen? ⟨B,8,none⟩=false):=by
 have hc:=fun j=>zzq2 w B j _ _ _ h
 have hf:=fun j=>zzq9 w B j _ _ h
 exact⟨hc 0,hc 1,hc 2,hc 3,hc 4,hc 5,hc 6,hc 7,hc 8,hf 0,hf 1,hf 2,hf 3,hf 4,hf 5,hf 6,hf 7,hf 8⟩
theorem zbG {w:World} {B:Nat} (v0 v1 v2 v3 v4 v5 v6 v7 v8:Value) (h:w.heap[B]?=some (.cells zo 47 (0,0))):
  (((((((((w.setCell ⟨B,0,none⟩ v0).setCell ⟨B,1,none⟩ v1).setCell ⟨B,2,none⟩ v2).setCell ⟨B,3,none⟩ v3).setCell ⟨B,4,none⟩ v4).setCell ⟨B,5,none⟩ v5).setCell ⟨B,6,none⟩ v6).setCell ⟨B,7,none⟩ v7).setCell ⟨B,8,none⟩ v8).heap[B]?=some (.cells #[v0,v1,v2,v3,v4,v5,v6,v7,v8] 47 (0,0)):=by
 have h0:(w.setCell ⟨B,0,none⟩ v0).heap[B]?=some (.cells #[v0,.int .i64 0,.int .i64 0,.string ⟨#[]⟩,.string ⟨#[]⟩,.int .i64 0,.slice none 0 0,.string ⟨#[]⟩,.int .i64 0] 47 (0,0)):=zzS _ _ 0 _ _ v0 h
 have h1:((w.setCell ⟨B,0,none⟩ v0).setCell ⟨B,1,none⟩ v1).heap[B]?=some (.cells #[v0,v1,.int .i64 0,.string ⟨#[]⟩,.string ⟨#[]⟩,.int .i64 0,.slice none 0 0,.string ⟨#[]⟩,.int .i64 0] 47 (0,0)):=zzS _ _ 1 _ _ v1 h0
 have h2:(((w.setCell ⟨B,0,none⟩ v0).setCell ⟨B,1,none⟩ v1).setCell ⟨B,2,none⟩ v2).heap[B]?=some (.cells #[v0,v1,v2,.string ⟨#[]⟩,.string ⟨#[]⟩,.int .i64 0,.slice none 0 0,.string ⟨#[]⟩,.int .i64 0] 47 (0,0)):=zzS _ _ 2 _ _ v2 h1
 have h3:((((w.setCell ⟨B,0,none⟩ v0).setCell ⟨B,1,none⟩ v1).setCell ⟨B,2,none⟩ v2).setCell ⟨B,3,none⟩ v3).heap[B]?=some (.cells #[v0,v1,v2,v3,.string ⟨#[]⟩,.int .i64 0,.slice none 0 0,.string ⟨#[]⟩,.int .i64 0] 47 (0,0)):=zzS _ _ 3 _ _ v3 h2
 have h4:(((((w.setCell ⟨B,0,none⟩ v0).setCell ⟨B,1,none⟩ v1).setCell ⟨B,2,none⟩ v2).setCell ⟨B,3,none⟩ v3).setCell ⟨B,4,none⟩ v4).heap[B]?=some (.cells #[v0,v1,v2,v3,v4,.int .i64 0,.slice none 0 0,.string ⟨#[]⟩,.int .i64 0] 47 (0,0)):=zzS _ _ 4 _ _ v4 h3
 have h5:((((((w.setCell ⟨B,0,none⟩ v0).setCell ⟨B,1,none⟩ v1).setCell ⟨B,2,none⟩ v2).setCell ⟨B,3,none⟩ v3).setCell ⟨B,4,none⟩ v4).setCell ⟨B,5,none⟩ v5).heap[B]?=some (.cells #[v0,v1,v2,v3,v4,v5,.slice none 0 0,.string ⟨#[]⟩,.int .i64 0] 47 (0,0)):=zzS _ _ 5 _ _ v5 h4
 have h6:(((((((w.setCell ⟨B,0,none⟩ v0).setCell ⟨B,1,none⟩ v1).setCell ⟨B,2,none⟩ v2).setCell ⟨B,3,none⟩ v3).setCell ⟨B,4,none⟩ v4).setCell ⟨B,5,none⟩ v5).setCell ⟨B,6,none⟩ v6).heap[B]?=some (.cells #[v0,v1,v2,v3,v4,v5,v6,.string ⟨#[]⟩,.int .i64 0] 47 (0,0)):=zzS _ _ 6 _ _ v6 h5
 have h7:((((((((w.setCell ⟨B,0,none⟩ v0).setCell ⟨B,1,none⟩ v1).setCell ⟨B,2,none⟩ v2).setCell ⟨B,3,none⟩ v3).setCell ⟨B,4,none⟩ v4).setCell ⟨B,5,none⟩ v5).setCell ⟨B,6,none⟩ v6).setCell ⟨B,7,none⟩ v7).heap[B]?=some (.cells #[v0,v1,v2,v3,v4,v5,v6,v7,.int .i64 0] 47 (0,0)):=zzS _ _ 7 _ _ v7 h6
 have h8:(((((((((w.setCell ⟨B,0,none⟩ v0).setCell ⟨B,1,none⟩ v1).setCell ⟨B,2,none⟩ v2).setCell ⟨B,3,none⟩ v3).setCell ⟨B,4,none⟩ v4).setCell ⟨B,5,none⟩ v5).setCell ⟨B,6,none⟩ v6).setCell ⟨B,7,none⟩ v7).setCell ⟨B,8,none⟩ v8).heap[B]?=some (.cells #[v0,v1,v2,v3,v4,v5,v6,v7,v8] 47 (0,0)):=zzS _ _ 8 _ _ v8 h7
 exact h8
theorem zb1 {w0 w:World} {B C:Nat} (hBC:B<=C) (h:Below B w0 w) (v0 v1 v2 v3 v4 v5 v6 v7 v8:Value):
  Below B w0 (((((((((w.setCell ⟨C,0,none⟩ v0).setCell ⟨C,1,none⟩ v1).setCell ⟨C,2,none⟩ v2).setCell ⟨C,3,none⟩ v3).setCell ⟨C,4,none⟩ v4).setCell ⟨C,5,none⟩ v5).setCell ⟨C,6,none⟩ v6).setCell ⟨C,7,none⟩ v7).setCell ⟨C,8,none⟩ v8):=
 ((((((((h.setCell hBC _).setCell hBC _).setCell hBC _).setCell hBC _).setCell hBC _).setCell hBC _).setCell hBC _).setCell hBC _).setCell hBC _
section
variable (k i g:Int) (n f:ByteArray) (a:Int) (so:Option Addr) (l c:Nat) (y:ByteArray) (z:Int) (w:World)
theorem znb:Calls Tryz.prog 161 #[.agg #[.int .i64 k,.int .i64 i,.int .i64 g,.string n,.string f,.int .i64 a,.slice so l c,.string y,.int .i64 z]] w fun e w'=>
  e= .returned (.tuple #[.agg #[.int .i64 k,.int .i64 i,.int .i64 g,.string n,.string f,.int .i64 a,.slice so l c,.string y,.int .i64 z],.bool (false)])/\Below w.heap.size w w':=by
 go_in;go_wp2_with fail;exact bodyPost_ret (v:=.tuple #[.agg #[.int .i64 k,.int .i64 i,.int .i64 g,.string n,.string f,.int .i64 a,.slice so l c,.string y,.int .i64 z],.bool (false)]) (by simp [results,Tryz.results161,go_sem]) rfl ⟨rfl,zU _ _ _⟩
theorem zqt:Calls Tryz.prog 162 #[.agg #[.int .i64 k,.int .i64 i,.int .i64 g,.string n,.string f,.int .i64 a,.slice so l c,.string y,.int .i64 z]] w fun e w'=>
  e= .returned (.tuple #[.agg #[.int .i64 k,.int .i64 0,.int .i64 g,.string n,.string f,.int .i64 a,.slice so l c,.string y,.int .i64 z],.bool (true)])/\Below w.heap.size w w':=by
 go_in;go_wp2_with fail;exact bodyPost_ret (v:=.tuple #[.agg #[.int .i64 k,.int .i64 0,.int .i64 g,.string n,.string f,.int .i64 a,.slice so l c,.string y,.int .i64 z],.bool (true)]) (by simp [results,Tryz.results162,go_sem]) rfl ⟨rfl,zU _ _ _⟩
theorem zp6:Calls Tryz.prog 167 #[.agg #[.int .i64 k,.int .i64 i,.int .i64 g,.string n,.string f,.int .i64 a,.slice so l c,.string y,.int .i64 z]] w fun e w'=>
  e= .returned (.tuple #[.agg #[.int .i64 k,.int .i64 i,.int .i64 g,.string n,.string f,.int .i64 a,.slice so l c,.string y,.int .i64 z],.bool (true)])/\Below w.heap.size w w':=by
 go_in;go_wp2_with fail;exact bodyPost_ret (v:=.tuple #[.agg #[.int .i64 k,.int .i64 i,.int .i64 g,.string n,.string f,.int .i64 a,.slice so l c,.string y,.int .i64 z],.bool (true)]) (by simp [results,Tryz.results167,go_sem]) rfl ⟨rfl,zU _ _ _⟩
theorem zpq:Calls Tryz.prog 159 #[.agg #[.int .i64 k,.int .i64 i,.int .i64 g,.string n,.string f,.int .i64 a,.slice so l c,.string y,.int .i64 z]] w fun e w'=>
  e= .returned (.tuple #[.agg #[.int .i64 k,.int .i64 0,.int .i64 0,.string ⟨#[]⟩,.string f,.int .i64 a,.slice so l c,.string y,.int .i64 z],.bool (wi i 1 2147483647&&wi g 1 2147483647&&zB n)])/\Below w.heap.size w w':=by
 have h0:=fun wx=>zdu i 1 2147483647 wx
 have h1:=fun wx=>zdu g 1 2147483647 wx
 have h2:=fun wx=>zeb n wx
 generalize wi i 1 2147483647=b0 at *;generalize wi g 1 2147483647=b1 at *;generalize zB n=b2 at *
 cases b0 with
 |false=>
  exact zz17
 |true=>
  cases b1 with
  |false=>
   exact zz17
  |true=>
   go_in;go_wp2_with (go_at_call 160;first|((with_reducible refine(h0 _).mono ?_);rintro e w1 ⟨rfl,rfl⟩)|((with_reducible refine(h1 _).mono ?_);rintro e w1 ⟨rfl,rfl⟩));refine(h2 _).mono ?_;rintro e w7 ⟨rfl,hb5⟩;have r0:w7.heap[w.heap.size]?=some (.cells #[.int .i64 k,.int .i64 i,.int .i64 g,.string n,.string f,.int .i64 a,.slice so l c,.string y,.int .i64 z] 47 (0,0)):=(hb5.block _ (by simp;omega)).trans (zem _ _ _)
   have r1:w7.heap[w.heap.size+1]?=some (.cells zo 47 (0,0)):=(hb5.block _ (by simp)).trans (zd0 _ _ _)
   have hB:Below w.heap.size w w7:=(zU _ _ _).trans (hb5.mono (by simp;omega));clear hb5;generalize hBe:w.heap.size=B at *;have HBE:=zzH hBe;clear hBe;obtain⟨q0,q1,q2,q3,q4,q5,q6,q7,q8,z0⟩:=zf r0;go_upto_region 3 with(go_at_call 160;first|((with_reducible refine(h0 _).mono ?_);rintro e w1 ⟨rfl,rfl⟩)|((with_reducible refine(h1 _).mono ?_);rintro e w1 ⟨rfl,rfl⟩));have r0':(((w7.setCell ⟨B,1,none⟩ (.int .i64 0)).setCell ⟨B,2,none⟩ (.int .i64 0)).setCell ⟨B,3,none⟩ (.string ⟨#[]⟩)).heap[B]?=some (.cells #[.int .i64 k,.int .i64 0,.int .i64 0,.string ⟨#[]⟩,.string f,.int .i64 a,.slice so l c,.string y,.int .i64 z] 47 (0,0)):=(zzS _ _ 3 _ _ (.string ⟨#[]⟩) (zzS _ _ 2 _ _ (.int .i64 0) (zzS _ _ 1 _ _ (.int .i64 0) r0)))
   have r1':(((w7.setCell ⟨B,1,none⟩ (.int .i64 0)).setCell ⟨B,2,none⟩ (.int .i64 0)).setCell ⟨B,3,none⟩ (.string ⟨#[]⟩)).heap[B+1]?=some (.cells zo 47 (0,0)):=((zzq7 _ _ _ _ (by simp)).trans ((zzq7 _ _ _ _ (by simp)).trans ((zzq7 _ _ _ _ (by simp)).trans r1)))
   have hB':Below B w (((w7.setCell ⟨B,1,none⟩ (.int .i64 0)).setCell ⟨B,2,none⟩ (.int .i64 0)).setCell ⟨B,3,none⟩ (.string ⟨#[]⟩)):=(((hB.setCell (zzL _) _).setCell (zzL _) _).setCell (zzL _) _);clear q0 q1 q2 q3 q4 q5 q6 q7 q8 z0 r0 r1 hB;generalize(((w7.setCell ⟨B,1,none⟩ (.int .i64 0)).setCell ⟨B,2,none⟩ (.int .i64 0)).setCell ⟨B,3,none⟩ (.string ⟨#[]⟩))=w9 at *;exact zz18
theorem zn6:Calls Tryz.prog 163 #[.agg #[.int .i64 k,.int .i64 i,.int .i64 g,.string n,.string f,.int .i64 a,.slice so l c,.string y,.int .i64 z]] w fun e w'=>
  e= .returned (.tuple #[.agg #[.int .i64 k,.int .i64 i,.int .i64 g,.string ⟨#[]⟩,.string f,.int .i64 a,.slice so l c,.string y,.int .i64 z],.bool (zB n)])/\Below w.heap.size w w':=by
 have h0:=fun wx=>zeb n wx
 generalize zB n=b0 at *;go_in;go_wp2_with fail;refine(h0 _).mono ?_;rintro e w5 ⟨rfl,hb5⟩;have r0:w5.heap[w.heap.size]?=some (.cells #[.int .i64 k,.int .i64 i,.int .i64 g,.string n,.string f,.int .i64 a,.slice so l c,.string y,.int .i64 z] 47 (0,0)):=(hb5.block _ (by simp;omega)).trans (zem _ _ _)
 have r1:w5.heap[w.heap.size+1]?=some (.cells zo 47 (0,0)):=(hb5.block _ (by simp)).trans (zd0 _ _ _)
 have hB:Below w.heap.size w w5:=(zU _ _ _).trans (hb5.mono (by simp;omega));clear hb5;generalize hBe:w.heap.size=B at *;have HBE:=zzH hBe;clear hBe;obtain⟨q0,q1,q2,q3,q4,q5,q6,q7,q8,z0⟩:=zf r0;go_upto_region 3 with fail;have r0':(w5.setCell ⟨B,3,none⟩ (.string ⟨#[]⟩)).heap[B]?=some (.cells #[.int .i64 k,.int .i64 i,.int .i64 g,.string ⟨#[]⟩,.string f,.int .i64 a,.slice so l c,.string y,.int .i64 z] 47 (0,0)):=(zzS _ _ 3 _ _ (.string ⟨#[]⟩) r0)
 have r1':(w5.setCell ⟨B,3,none⟩ (.string ⟨#[]⟩)).heap[B+1]?=some (.cells zo 47 (0,0)):=((zzq7 _ _ _ _ (by simp)).trans r1)
 have hB':Below B w (w5.setCell ⟨B,3,none⟩ (.string ⟨#[]⟩)):=(hB.setCell (zzL _) _);clear q0 q1 q2 q3 q4 q5 q6 q7 q8 z0 r0 r1 hB;generalize(w5.setCell ⟨B,3,none⟩ (.string ⟨#[]⟩))=w9 at *;obtain⟨q0,q1,q2,q3,q4,q5,q6,q7,q8,z0⟩:=zf r0';obtain⟨p0,p1,p2,p3,p4,p5,p6,p7,p8,z1⟩:=zf r1';go_wp2_with fail;refine bodyPost_ret (zbb rfl _ _ _ (B+1) _ _ _ _ rfl (zbG _ _ _ _ _ _ _ _ _ r1') Tryz.underlying47 (by kernel_rfl)) rfl ?_;exact⟨rfl,by rw [HBE.out];exact zb1 (Nat.le_succ _) hB' _ _ _ _ _ _ _ _ _⟩
theorem zkK:Calls Tryz.prog 165 #[.agg #[.int .i64 k,.int .i64 i,.int .i64 g,.string n,.string f,.int .i64 a,.slice so l c,.string y,.int .i64 z]] w fun e w'=>
  e= .returned (.tuple #[.agg #[.int .i64 k,.int .i64 i,.int .i64 g,.string ⟨#[]⟩,.string ⟨#[]⟩,.int .i64 0,.slice so l c,.string y,.int .i64 z],.bool (zB n&&zB f&&wi a 0 16)])/\Below w.heap.size w w':=by
 have h0:=fun wx=>zeb n wx
 have h1:=fun wx=>zeb f wx
 have h2:=fun wx=>zdu a 0 16 wx
 generalize zB n=b0 at *;generalize zB f=b1 at *;generalize wi a 0 16=b2 at *;go_in;go_wp2_with (go_at_call 160;first|((with_reducible refine(h2 _).mono ?_);rintro e w1 ⟨rfl,rfl⟩));refine(h0 _).mono ?_;rintro e w5 ⟨rfl,hb5⟩;have r0:w5.heap[w.heap.size]?=some (.cells #[.int .i64 k,.int .i64 i,.int .i64 g,.string n,.string f,.int .i64 a,.slice so l c,.string y,.int .i64 z] 47 (0,0)):=(hb5.block _ (by simp;omega)).trans (zem _ _ _)
 have r1:w5.heap[w.heap.size+1]?=some (.cells zo 47 (0,0)):=(hb5.block _ (by simp)).trans (zd0 _ _ _)
 have hB:Below w.heap.size w w5:=(zU _ _ _).trans (hb5.mono (by simp;omega));clear hb5;generalize hBe:w.heap.size=B at *;have HBE:=zzH hBe;clear hBe;obtain⟨q0,q1,q2,q3,q4,q5,q6,q7,q8,z0⟩:=zf r0
 cases b0 with
 |false=>
  go_upto_region 3 with(go_at_call 160;first|((with_reducible refine(h2 _).mono ?_);rintro e w1 ⟨rfl,rfl⟩));have r0':(((w5.setCell ⟨B,3,none⟩ (.string ⟨#[]⟩)).setCell ⟨B,4,none⟩ (.string ⟨#[]⟩)).setCell ⟨B,5,none⟩ (.int .i64 0)).heap[B]?=some (.cells #[.int .i64 k,.int .i64 i,.int .i64 g,.string ⟨#[]⟩,.string ⟨#[]⟩,.int .i64 0,.slice so l c,.string y,.int .i64 z] 47 (0,0)):=(zzS _ _ 5 _ _ (.int .i64 0) (zzS _ _ 4 _ _ (.string ⟨#[]⟩) (zzS _ _ 3 _ _ (.string ⟨#[]⟩) r0)))
  have r1':(((w5.setCell ⟨B,3,none⟩ (.string ⟨#[]⟩)).setCell ⟨B,4,none⟩ (.string ⟨#[]⟩)).setCell ⟨B,5,none⟩ (.int .i64 0)).heap[B+1]?=some (.cells zo 47 (0,0)):=((zzq7 _ _ _ _ (by simp)).trans ((zzq7 _ _ _ _ (by simp)).trans ((zzq7 _ _ _ _ (by simp)).trans r1)))
  have hB':Below B w (((w5.setCell ⟨B,3,none⟩ (.string ⟨#[]⟩)).setCell ⟨B,4,none⟩ (.string ⟨#[]⟩)).setCell ⟨B,5,none⟩ (.int .i64 0)):=(((hB.setCell (zzL _) _).setCell (zzL _) _).setCell (zzL _) _);clear q0 q1 q2 q3 q4 q5 q6 q7 q8 z0 r0 r1 hB;generalize(((w5.setCell ⟨B,3,none⟩ (.string ⟨#[]⟩)).setCell ⟨B,4,none⟩ (.string ⟨#[]⟩)).setCell ⟨B,5,none⟩ (.int .i64 0))=w9 at *;exact zz18
 |true=>
  go_wp2_with (go_at_call 160;first|((with_reducible refine(h2 _).mono ?_);rintro e w1 ⟨rfl,rfl⟩));refine(h1 _).mono ?_;rintro e w6 ⟨rfl,hb5⟩;have r0n:=(hb5.block B (zc r0)).trans r0;have r1n:=(hb5.block (B+1) (zc r1)).trans r1;have hBn:Below B w w6:=hB.trans (hb5.mono (Nat.le_of_lt (zc r0)));clear hb5 r0 r1 hB q0 q1 q2 q3 q4 q5 q6 q7 q8 z0;have r0:=r0n;have r1:=r1n;have hB:=hBn;clear r0n r1n hBn;obtain⟨q0,q1,q2,q3,q4,q5,q6,q7,q8,z0⟩:=zf r0
  cases b1 with
  |false=>
   exact zz19
  |true=>
   cases b2 with
   |false=>
    exact zz19
   |true=>
    exact zz19
theorem zmA:Calls Tryz.prog 166 #[.agg #[.int .i64 k,.int .i64 i,.int .i64 g,.string n,.string f,.int .i64 a,.slice so l c,.string y,.int .i64 z]] w fun e w'=>
  e= .returned (.tuple #[.agg #[.int .i64 k,.int .i64 i,.int .i64 g,.string n,.string f,.int .i64 a,.slice none 0 0,.string y,.int .i64 z],.bool (decide ((l:Int)<=255))])/\Below w.heap.size w w':=by
 cases hp:decide ((l:Int)<=255)with
 |false=>
  go_in;go_wp2_with fail;exact bodyPost_ret (v:=.tuple #[.agg #[.int .i64 k,.int .i64 i,.int .i64 g,.string n,.string f,.int .i64 a,.slice none 0 0,.string y,.int .i64 z],.bool (false)]) (by simp [results,Tryz.results166,go_sem]) rfl ⟨rfl,zU _ _ _⟩
 |true=>
  go_in;go_wp2_with fail;exact bodyPost_ret (v:=.tuple #[.agg #[.int .i64 k,.int .i64 i,.int .i64 g,.string n,.string f,.int .i64 a,.slice none 0 0,.string y,.int .i64 z],.bool (true)]) (by simp [results,Tryz.results166,go_sem]) rfl ⟨rfl,zU _ _ _⟩
theorem zj8:Calls Tryz.prog 164 #[.agg #[.int .i64 k,.int .i64 i,.int .i64 g,.string n,.string f,.int .i64 a,.slice so l c,.string y,.int .i64 z]] w fun e w'=>
  e= .returned (.tuple #[.agg #[.int .i64 k,.int .i64 0,.int .i64 0,.string ⟨#[]⟩,.string f,.int .i64 0,.slice none 0 0,.string y,.int .i64 z],.bool (wi i 0 999&&wi g 1 2147483647&&zB n&&wi a 0 16&&decide ((l:Int)<=200))])/\Below w.heap.size w w':=by
 have h0:=fun wx=>zdu i 0 999 wx
 have h1:=fun wx=>zdu g 1 2147483647 wx
 have h2:=fun wx=>zeb n wx
 have h3:=fun wx=>zdu a 0 16 wx
 generalize wi i 0 999=b0 at *;generalize wi g 1 2147483647=b1 at *;generalize zB n=b2 at *;generalize wi a 0 16=b3 at *
 cases hp:decide ((l:Int)<=200)with
 |false=>
  exact zz20
 |true=>
  exact zz20
end
theorem zpe (b r:Nat) (hb:b<256) (hr:r<8):b*2^r%256=0↔b%2^(8-r)=0:=by
 match r,hr with
 |0,_=>simp
 |1,_=>simp;omega
 |2,_=>simp;omega
 |3,_=>simp;omega
 |4,_=>simp;omega
 |5,_=>simp;omega
 |6,_=>simp;omega
 |7,_=>simp;omega
 |r+8,h=>omega
theorem zhq {y:ByteArray} {m:Nat} (h:y.size=m+1):zfW y=(y[m]'(by omega)).toNat:=by
 unfold zfW;have hl:y.data.toList.length=m+1:=by rw [Array.length_toList];exact h
 rw [List.getLast?_eq_getElem?,hl,Nat.add_sub_cancel,zzq8 (by omega)]
 rfl
section
variable (k i g:Int) (n f:ByteArray) (a:Int) (so:Option Addr) (l c:Nat) (y:ByteArray) (z:Int) (w:World)
theorem zmD (hl:l<2):Calls Tryz.prog 168 #[.agg #[.int .i64 k,.int .i64 i,.int .i64 g,.string n,.string f,.int .i64 a,.slice so l c,.string y,.int .i64 z]] w fun e w'=>
  e= .returned (.tuple #[.agg #[.int .i64 k,.int .i64 i,.int .i64 g,.string n,.string f,.int .i64 a,.slice none 0 0,.string y,.int .i64 z],.bool false])/\Below w.heap.size w w':=by
 have hd:decide ((2:Int)<=(l:Int))=false:=zzD (by omega);go_in;go_wp2_with fail;exact bodyPost_ret (v:=.tuple #[.agg #[.int .i64 k,.int .i64 i,.int .i64 g,.string n,.string f,.int .i64 a,.slice none 0 0,.string y,.int .i64 z],.bool false]) (by simp [results,Tryz.results168,go_sem]) rfl ⟨rfl,zU _ _ _⟩
theorem zmR (b off m:Nat) (kk:Int) (hm:m<=9223372036854775805) (hb:b<w.heap.size) (hc:w.cell? ⟨b,off+(m+1)*9,none⟩=some (.int .i64 kk)):Calls Tryz.prog 168 #[.agg #[.int .i64 k,.int .i64 i,.int .i64 g,.string n,.string f,.int .i64 a,.slice (some ⟨b,off,none⟩) (m+2) c,.string y,.int .i64 z]] w fun e w'=>
  e = .returned (.tuple #[.agg #[.int .i64 k, .int .i64 i, .int .i64 g, .string n, .string f, .int .i64 a, .slice none 0 0, .string y, .int .i64 z], .bool (kk != 9)]) /\ Below w.heap.size w w' := by
 have hd:decide ((2:Int)<=((m+2:Nat):Int))=true:=zzT (by omega);have hi:(((m+2:Nat):Int)-1).toNat=m+1:=by omega
 go_in;go_wp2_with fail;exact bodyPost_ret (v := .tuple #[.agg #[.int .i64 k, .int .i64 i, .int .i64 g, .string n, .string f, .int .i64 a, .slice none 0 0, .string y, .int .i64 z], .bool (kk != 9)]) (by simp [results, Tryz.results168, go_sem]) rfl ⟨rfl, zU _ _ _⟩
theorem zoK (hy:y.size<=9223372036854775807) (hz:I64 z):Calls Tryz.prog 169 #[.agg #[.int .i64 k,.int .i64 i,.int .i64 g,.string n,.string f,.int .i64 a,.slice so l c,.string y,.int .i64 z]] w fun e w'=>
  e= .returned (.tuple #[.agg #[.int .i64 k,.int .i64 i,.int .i64 g,.string n,.string f,.int .i64 a,.slice so l c,.string ⟨#[]⟩,.int .i64 0],.bool (zcz y z)])/\Below w.heap.size w w':=by
 have h0:=fun wx=>zdu z 0 16384 wx
 by_cases hw:0<=z/\z<=16384
 ·obtain⟨z0,z1⟩:=hw
  have hwi:=zeq z0 z1;have E0:zcz y z=(decide ((y.size:Int)=(z+7)/8)&&(decide (z%8=0)||decide (zfW y%2^(8-z%8).toNat=0))):=by unfold zcz;rw [hwi];rfl
  rw [hwi]at h0;clear hwi;by_cases hl:(y.size:Int)=(z+7)/8
  ·have hlb:((y.size:Int)==(z+7)/8)=true:=by rw [beq_iff_eq];exact hl
   by_cases hr:z%8=0
   ·have hrb:(z%8!=0)=false:=by rw [bne_eq_false_iff_eq];exact hr
    have E:=zzH (E0.trans (by rw [decide_eq_true hl,decide_eq_true hr];rfl:_=true));rw [E.out];clear E E0 hr hl hz;go_in;go_wp2_with (go_at_call 160;refine(h0 _).mono ?_;rintro e w1 ⟨rfl,rfl⟩);exact bodyPost_ret (v:=.tuple #[.agg #[.int .i64 k,.int .i64 i,.int .i64 g,.string n,.string f,.int .i64 a,.slice so l c,.string ⟨#[]⟩,.int .i64 0],.bool true]) (by simp [results,Tryz.results169,go_sem]) rfl ⟨rfl,zU _ _ _⟩
   ·have hrb:(z%8!=0)=true:=by rw [bne_iff_ne];exact hr
    obtain⟨m,hm⟩: ∃m,y.size=m+1:=⟨y.size-1,by omega⟩;have hmi:m<y.size:=by omega
    have hmy:m<=100000:=by omega
    have HM:=zzH hm;have hw1:IntKind.i64.wrap ((y.size:Int)-1)=(m:Int):=by rw [zzq3];omega
    have hrem:z.tmod 8=z%8:=by rw [Int.tmod_eq_emod_of_nonneg z0]
    have hr0:0<=z%8:=by omega
    have hr8:z%8<8:=by omega
    have EE:Hid ((((y[m].toNat:Nat):Int)*2^(z%8).toNat%256==0)=zcz y z):=zzH (by
     rw [E0,decide_eq_true hl,decide_eq_false hr,zhq hm];rw [Bool.true_and,Bool.false_or];have h:=zpe y[m].toNat (z%8).toNat (UInt8.toNat_lt _) (by omega);rw [show(8-z%8).toNat=8-(z%8).toNat by omega];rw [Bool.eq_iff_iff,beq_iff_eq,decide_eq_true_eq,<-h];exact⟨fun h=>by exact_mod_cast h,fun h=>by exact_mod_cast h⟩)
    clear hl hz hm hr E0;go_in;go_wp2_with (go_at_call 160;refine(h0 _).mono ?_;rintro e w1 ⟨rfl,rfl⟩);go_quiet (fail);go_wp2_with fail;refine bodyPost_ret (zbb rfl _ _ _ (w.heap.size+1) _ _ _ _ rfl (zbG _ _ _ _ _ _ _ _ _ ((zzq7 _ _ _ _ (by simp)).trans ((zzq7 _ _ _ _ (by simp)).trans (zd0 w _ _)))) Tryz.underlying47 (by kernel_rfl)) rfl ?_;exact⟨by rw [<-EE.out];rfl,zb1 (Nat.le_succ _) (((zY (zU _ _ _) _).setCell (zzL _) _).setCell (zzL _) _) _ _ _ _ _ _ _ _ _⟩
  ·have hlb:((y.size:Int)==(z+7)/8)=false:=by rw [zzq5];exact hl
   have E:=zzH (E0.trans (by rw [decide_eq_false hl];rfl:_=false));rw [E.out];clear E E0 hl hz;exact zz21
 ·have hwi:=zdN hw
  have E:Hid (zcz y z=false):=zzH (by unfold zcz;rw [hwi];rfl);rw [hwi]at h0;rw [E.out];clear E hwi hw hz;exact zz21
end
def zcG (rec:Tm->Tm->Bool):List Tm->List Tm->Bool
 |[],[]=>true
 |x::l,y::m=>rec x y&&zcG rec l m
 |_,_=>false
def zjA (a b:Tm):Bool:=(a.kind==b.kind)&&((a.int==b.int)&&((a.gen==b.gen)&&((a.name.toList==b.name.toList)&&((a.func.toList==b.func.toList)&&((a.arity==b.arity)&&((a.bytes.toList==b.bytes.toList)&&(a.bits==b.bits)))))))
def zcs:Nat->Tm->Tm->Bool
 |0,_,_=>false
 |f+1,a,b=>zjA a b&&zcG (zcs f) a.items b.items
theorem zi2 {rec:Tm->Tm->Bool}: ∀{l m:List Tm},l.length≠m.length->zcG rec l m=false
 |[],[],h=>absurd rfl h
 |_::l,_::m,h=>by
  unfold zcG;rw [zi2 (l:=l) (m:=m) (by simpa using h)];exact Bool.and_false _
 |[],_::_,_=>rfl
 |_::_,[],_=>rfl
theorem zmE {rec:Tm->Tm->Bool} {l m:List Tm} {k:Nat} (h:k<l.length) (h':k<m.length):zcG rec (l.drop k) (m.drop k)=(rec l[k] m[k]&&zcG rec (l.drop (k+1)) (m.drop (k+1))):=by
 rw [List.drop_eq_getElem_cons h,List.drop_eq_getElem_cons h',zcG]
theorem zos {rec:Tm->Tm->Bool} {l m:List Tm} {k:Nat} (h:l.length<=k) (h':m.length<=k):zcG rec (l.drop k) (m.drop k)=true:=by
 rw [zzq6 h,zzq6 h',zcG]
def zh3 (f:Nat):Prop:= ∀(ao bo:Option Addr) (c d:Nat) (l m:List Tm) (w:World),SlAt w 9 (TmAt w f) ao l->SlAt w 9 (TmAt w f) bo m->l.length<=maxLen->m.length<=maxLen ->
 Calls Tryz.prog 185 #[.slice ao l.length c,.slice bo m.length d,.func (.func 170) #[] #[]] w fun e w'=>e= .returned (.bool (zcG (zcs f) l m))/\Below w.heap.size w w'
def zm0 (f:Nat):Prop:= ∀(a b:Tm) (ao bo:Option Addr) (c d:Nat) (w:World),SlAt w 9 (TmAt w f) ao a.items->SlAt w 9 (TmAt w f) bo b.items->a.items.length<=maxLen->b.items.length<=maxLen ->
 Calls Tryz.prog 170 #[.agg #[.int .i64 a.kind,.int .i64 a.int,.int .i64 a.gen,.string a.name,.string a.func,.int .i64 a.arity,.slice ao a.items.length c,.string a.bytes,.int .i64 a.bits],
   .agg #[.int .i64 b.kind,.int .i64 b.int,.int .i64 b.gen,.string b.name,.string b.func,.int .i64 b.arity,.slice bo b.items.length d,.string b.bytes,.int .i64 b.bits]] w fun e w'=>e= .returned (.bool (zcs (f+1) a b))/\Below w.heap.size w w'
theorem zlt {f:Nat} (HP:Hid (zh3 f)):zm0 f:=by
 intro a b ao bo c d w ha hb hla hlb
 have hA: ∀wx,Below w.heap.size w wx->Calls Tryz.prog 185 #[.slice ao a.items.length c,.slice bo b.items.length d,.func (.func 170) #[] #[]] wx fun e w'=>e= .returned (.bool (zcG (zcs f) a.items b.items))/\Below w.heap.size w w':=
  fun wx hx=>(HP.out ao bo c d a.items b.items wx (ha.tms hx) (hb.tms hx) hla hlb).mono fun _ _ ⟨h1,h2⟩=>⟨h1,ze hx h2⟩
 have E0:Hid (zcs (f+1) a b=(zjA a b&&zcG (zcs f) a.items b.items)):=zzH rfl;unfold zjA at E0;clear ha hb hla hlb;generalize zcG (zcs f) a.items b.items=sl at *;generalize zcs (f+1) a b=r at *;obtain⟨ak,ai,ag,an,af,aa,al,ay,az⟩:=a;obtain⟨bk,bi,bg,bn,bf,ba,bl,by',bz⟩:=b;simp only [Tm.kind,Tm.int,Tm.gen,Tm.name,Tm.func,Tm.arity,Tm.items,Tm.bytes,Tm.bits]at *;have hbe:Below w.heap.size w ((w.alloc (.cells #[.int .i64 ak,.int .i64 ai,.int .i64 ag,.string an,.string af,.int .i64 aa,.slice ao al.length c,.string ay,.int .i64 az] 47)).alloc (.cells #[.int .i64 bk,.int .i64 bi,.int .i64 bg,.string bn,.string bf,.int .i64 ba,.slice bo bl.length d,.string by',.int .i64 bz] 47)):=zU _ _ _;have HA:=hA _ hbe;have HBE:=zzH hbe;clear hA hbe
 cases t0:(ak==bk)with
 |false=>
  simp only [t0]at E0;exact zz22
 |true=>
  simp only [t0]at E0
  cases t1:(ai==bi)with
  |false=>
   simp only [t1]at E0;exact zz22
  |true=>
   simp only [t1]at E0
   cases t2:(ag==bg)with
   |false=>
    simp only [t2]at E0;exact zz22
   |true=>
    simp only [t2]at E0
    cases t3:(an.toList==bn.toList)with
    |false=>
     simp only [t3]at E0;exact zz22
    |true=>
     simp only [t3]at E0
     cases t4:(af.toList==bf.toList)with
     |false=>
      simp only [t4]at E0;exact zz22
     |true=>
      simp only [t4]at E0
      cases t5:(aa==ba)with
      |false=>
       simp only [t5]at E0;exact zz22
      |true=>
       simp only [t5]at E0
       cases t6:(ay.toList==by'.toList)with
       |false=>
        simp only [t6]at E0;exact zz22
       |true=>
        simp only [t6]at E0
        cases t7:(az==bz)with
        |false=>
         simp only [t7]at E0;exact zz22
        |true=>
         simp only [t7]at E0;simp only [Bool.true_and,Bool.false_and,Bool.and_true,Bool.and_false]at E0;go_in;go_wp2_with fail;refine HA.mono ?_;rintro e w5 ⟨rfl,hb5⟩;go_wp2_with fail;go_ret;exact⟨zr E0.out.symm,hb5⟩
theorem zmF:zh3 0:=by
 intro ao bo c d l m w ha hb hla hlb;obtain rfl:=ha.zero;obtain rfl:=hb.zero;go_in;go_wp2_with fail;go_loop [16] (fun i=>i= .int .i64 0) (fun _=>0)
 case atStart=>rfl
 case round=>
  obtain rfl:=hrel;go_wp2_with fail;go_ret;exact⟨rfl,zzR _ _⟩
theorem zl8 {f:Nat} (HQ:Hid (zm0 f)):zh3 (f+1):=by
 intro ao bo c d l m w ha hb hla hlb;unfold maxLen at hla hlb;by_cases hlm:l.length=m.length
 ·have HA:=zzH ha;have HB:=zzH hb
  have HLM:=zzH hlm;have hlmb:((l.length:Int)!=(m.length:Int))=false:=by rw [hlm];simp
  have HS:Hid (zcG (zcs (f+1)) l m=zcG (zcs (f+1)) (l.drop 0) (m.drop 0)):=zzH rfl;clear ha hb hlm;go_in;go_wp2_with fail;go_loopw [7,8,16] (fun _ _ i wr=> ∃k:Nat,k<=l.length/\i= .int .i64 k/\Hid (zcG (zcs (f+1)) l m=zcG (zcs (f+1)) (l.drop k) (m.drop k))/\Below w.heap.size w wr) (fun _ _ i _=>l.length-(intOf i).toNat)
  case atStart=>exact⟨0,zzZ _,rfl,HS,zzR _ _⟩
  case round=>
   obtain⟨k,hk,rfl,HK,hBw⟩:=hrel;rename World=>wr
   by_cases hlt:k<l.length
   ·have hlt':k<m.length:=by have:=HLM.out;omega
    have hsa:=HA.out.tms hBw;have hsb:=HB.out.tms hBw;obtain⟨b1,off1,ai,ci,hao,hb1,q0,q1,q2,q3,q4,q5,q6,q7,q8,hit,hok⟩:=hsa.tm hlt;obtain⟨b2,off2,bi,di,hbo,hb2,p0,p1,p2,p3,p4,p5,p6,p7,p8,hit2,hok2⟩:=hsb.tm hlt';subst hao;subst hbo;have HST:=zzH (zmE (rec:=zcs (f+1)) hlt hlt');have hbx:Below wr.heap.size wr (wr.alloc (.cells (zzt l[k] ai ci) 47)):=(zzR _ _).alloc (zzL _) _;have hSM:=HQ.out l[k] m[k] ai bi ci di (wr.alloc (.cells (zzt l[k] ai ci) 47)).drew (hit.tms hbx.drew) (hit2.tms hbx.drew) hok.2.2.2.2.2.2.1 hok2.2.2.2.2.2.2.1;have HBX:=zzH (hBw.trans (hbx.mono hBw.size));have hbs:w.heap.size<=(wr.alloc (.cells (zzt l[k] ai ci) 47)).heap.size:=HBX.out.size;have hca:=heap_alloc_new wr (.cells #[.int .i64 l[k].kind,.int .i64 l[k].int,.int .i64 l[k].gen,.string l[k].name,.string l[k].func,.int .i64 l[k].arity,.slice ai l[k].items.length ci,.string l[k].bytes,.int .i64 l[k].bits] 47);have hb2':b2<(wr.alloc (.cells (zzt l[k] ai ci) 47)).heap.size:=zzW hb2 hbx.size;have p0':=(hbx.cell (p:=⟨b2,off2+k*9,none⟩) hb2).trans p0;have p1':=(hbx.cell (p:=⟨b2,off2+k*9+1,none⟩) hb2).trans p1;have p2':=(hbx.cell (p:=⟨b2,off2+k*9+2,none⟩) hb2).trans p2;have p3':=(hbx.cell (p:=⟨b2,off2+k*9+3,none⟩) hb2).trans p3;have p4':=(hbx.cell (p:=⟨b2,off2+k*9+4,none⟩) hb2).trans p4;have p5':=(hbx.cell (p:=⟨b2,off2+k*9+5,none⟩) hb2).trans p5;have p6':=(hbx.cell (p:=⟨b2,off2+k*9+6,none⟩) hb2).trans p6;have p7':=(hbx.cell (p:=⟨b2,off2+k*9+7,none⟩) hb2).trans p7;have p8':=(hbx.cell (p:=⟨b2,off2+k*9+8,none⟩) hb2).trans p8;clear hit hit2 hok hok2 hsa hsb hbx;generalize l[k]=x at *;generalize m[k]=y at *
    cases hr:zcs (f+1) x y with
    |true=>
     have HK2:Hid (zcG (zcs (f+1)) l m=zcG (zcs (f+1)) (l.drop (k+1)) (m.drop (k+1))):=zzH (by rw [HK.out,HST.out,hr,Bool.true_and]);rw [hr]at hSM;clear hr;have HBS:=zzH hbs;clear hbs;go_wp2_with fail;generalize(wr.alloc (.cells (zzt x ai ci) 47))=wa at *;generalize wr.heap.size=C at *;obtain⟨q0',q1',q2',q3',q4',q5',q6',q7',q8',z1⟩:=zf hca;have hCs:=zc hca;have HCA:=zzH hca;clear hca z1 q0 q1 q2 q3 q4 q5 q6 q7 q8 p0 p1 p2 p3 p4 p5 p6 p7 p8
     first|go_region_held3 (fun w'=>((w'.cell? ⟨C,0,none⟩=some (.int .i64 x.kind)/\w'.cell? ⟨C,1,none⟩=some (.int .i64 x.int)/\w'.cell? ⟨C,2,none⟩=some (.int .i64 x.gen)/\w'.cell? ⟨C,3,none⟩=some (.string x.name)/\w'.cell? ⟨C,4,none⟩=some (.string x.func)/\w'.cell? ⟨C,5,none⟩=some (.int .i64 x.arity)/\w'.cell? ⟨C,6,none⟩=some (.slice ai x.items.length ci)/\w'.cell? ⟨C,7,none⟩=some (.string x.bytes)/\w'.cell? ⟨C,8,none⟩=some (.int .i64 x.bits))/\(w'.cell? ⟨b2,off2+k*9,none⟩=some (.int .i64 y.kind)/\w'.cell? ⟨b2,off2+k*9+1,none⟩=some (.int .i64 y.int)/\w'.cell? ⟨b2,off2+k*9+2,none⟩=some (.int .i64 y.gen)/\w'.cell? ⟨b2,off2+k*9+3,none⟩=some (.string y.name)/\w'.cell? ⟨b2,off2+k*9+4,none⟩=some (.string y.func)/\w'.cell? ⟨b2,off2+k*9+5,none⟩=some (.int .i64 y.arity)/\w'.cell? ⟨b2,off2+k*9+6,none⟩=some (.slice bi y.items.length di)/\w'.cell? ⟨b2,off2+k*9+7,none⟩=some (.string y.bytes)/\w'.cell? ⟨b2,off2+k*9+8,none⟩=some (.int .i64 y.bits)))) (((repeat' apply And.intro)<;>assumption)) ((go_at_call 170;refine hSM.mono ?_;rintro e w5 ⟨rfl,hb5⟩;obtain⟨r0,r1,r2,r3,r4,r5,r6,r7,r8,_⟩:=zf ((hb5.block C hCs).trans HCA.out);have s0:=(hb5.cell (p:=⟨b2,off2+k*9,none⟩) hb2').trans p0';have s1:=(hb5.cell (p:=⟨b2,off2+k*9+1,none⟩) hb2').trans p1';have s2:=(hb5.cell (p:=⟨b2,off2+k*9+2,none⟩) hb2').trans p2';have s3:=(hb5.cell (p:=⟨b2,off2+k*9+3,none⟩) hb2').trans p3';have s4:=(hb5.cell (p:=⟨b2,off2+k*9+4,none⟩) hb2').trans p4';have s5:=(hb5.cell (p:=⟨b2,off2+k*9+5,none⟩) hb2').trans p5';have s6:=(hb5.cell (p:=⟨b2,off2+k*9+6,none⟩) hb2').trans p6';have s7:=(hb5.cell (p:=⟨b2,off2+k*9+7,none⟩) hb2').trans p7';have s8:=(hb5.cell (p:=⟨b2,off2+k*9+8,none⟩) hb2').trans p8'))|fail
     go_wp2_with fail;go_roundw
     case rel=>exact⟨k+1,by omega,by go_num,HK2,HBX.out.drew.trans (hb5.mono HBS.out)⟩
     case measure=>simp [intOf];omega
    |false=>
     have E:Hid (zcG (zcs (f+1)) l m=false):=zzH (by rw [HK.out,HST.out,hr,Bool.false_and]);rw [hr]at hSM;clear hr;have HBS:=zzH hbs;clear hbs;go_wp2_with fail;generalize(wr.alloc (.cells (zzt x ai ci) 47))=wa at *;generalize wr.heap.size=C at *;obtain⟨q0',q1',q2',q3',q4',q5',q6',q7',q8',z1⟩:=zf hca;have hCs:=zc hca;have HCA:=zzH hca;clear hca z1 q0 q1 q2 q3 q4 q5 q6 q7 q8 p0 p1 p2 p3 p4 p5 p6 p7 p8
     first|go_region_held3 (fun w'=>((w'.cell? ⟨C,0,none⟩=some (.int .i64 x.kind)/\w'.cell? ⟨C,1,none⟩=some (.int .i64 x.int)/\w'.cell? ⟨C,2,none⟩=some (.int .i64 x.gen)/\w'.cell? ⟨C,3,none⟩=some (.string x.name)/\w'.cell? ⟨C,4,none⟩=some (.string x.func)/\w'.cell? ⟨C,5,none⟩=some (.int .i64 x.arity)/\w'.cell? ⟨C,6,none⟩=some (.slice ai x.items.length ci)/\w'.cell? ⟨C,7,none⟩=some (.string x.bytes)/\w'.cell? ⟨C,8,none⟩=some (.int .i64 x.bits))/\(w'.cell? ⟨b2,off2+k*9,none⟩=some (.int .i64 y.kind)/\w'.cell? ⟨b2,off2+k*9+1,none⟩=some (.int .i64 y.int)/\w'.cell? ⟨b2,off2+k*9+2,none⟩=some (.int .i64 y.gen)/\w'.cell? ⟨b2,off2+k*9+3,none⟩=some (.string y.name)/\w'.cell? ⟨b2,off2+k*9+4,none⟩=some (.string y.func)/\w'.cell? ⟨b2,off2+k*9+5,none⟩=some (.int .i64 y.arity)/\w'.cell? ⟨b2,off2+k*9+6,none⟩=some (.slice bi y.items.length di)/\w'.cell? ⟨b2,off2+k*9+7,none⟩=some (.string y.bytes)/\w'.cell? ⟨b2,off2+k*9+8,none⟩=some (.int .i64 y.bits)))) (((repeat' apply And.intro)<;>assumption)) ((go_at_call 170;refine hSM.mono ?_;rintro e w5 ⟨rfl,hb5⟩;obtain⟨r0,r1,r2,r3,r4,r5,r6,r7,r8,_⟩:=zf ((hb5.block C hCs).trans HCA.out);have s0:=(hb5.cell (p:=⟨b2,off2+k*9,none⟩) hb2').trans p0';have s1:=(hb5.cell (p:=⟨b2,off2+k*9+1,none⟩) hb2').trans p1';have s2:=(hb5.cell (p:=⟨b2,off2+k*9+2,none⟩) hb2').trans p2';have s3:=(hb5.cell (p:=⟨b2,off2+k*9+3,none⟩) hb2').trans p3';have s4:=(hb5.cell (p:=⟨b2,off2+k*9+4,none⟩) hb2').trans p4';have s5:=(hb5.cell (p:=⟨b2,off2+k*9+5,none⟩) hb2').trans p5';have s6:=(hb5.cell (p:=⟨b2,off2+k*9+6,none⟩) hb2').trans p6';have s7:=(hb5.cell (p:=⟨b2,off2+k*9+7,none⟩) hb2').trans p7';have s8:=(hb5.cell (p:=⟨b2,off2+k*9+8,none⟩) hb2').trans p8'))|fail
     go_wp2_with fail;go_ret;exact⟨zr E.out.symm,HBX.out.drew.trans (hb5.mono HBS.out)⟩
   ·have E:Hid (zcG (zcs (f+1)) l m=true):=zzH (by rw [HK.out];exact zos (by omega) (by have:=HLM.out;omega))
    go_wp2_with fail;go_ret;exact⟨zr E.out.symm,hBw⟩
 ·have hlmb:((l.length:Int)!=(m.length:Int))=true:=by rw [bne_iff_ne];omega
  have E:Hid (zcG (zcs (f+1)) l m=false):=zzH (zi2 hlm);clear ha hb hlm;go_in;go_wp2_with fail;go_ret;exact⟨zr E.out.symm,zzR _ _⟩
theorem ziO: ∀f,zh3 f
 |0=>zmF
 |f+1=>zl8 (zzH (zlt (zzH (ziO f))))
theorem zpt (f:Nat):zm0 f:=zlt (zzH (ziO f))
def zd (t:Tm):Tm:=
 if t.kind=1 then .mk t.kind 0 t.gen t.name t.func t.arity t.items t.bytes t.bits else if t.kind=2 then .mk t.kind t.int t.gen ⟨#[]⟩ t.func t.arity t.items t.bytes t.bits else if t.kind=3 then .mk t.kind 0 0 ⟨#[]⟩ t.func t.arity t.items t.bytes t.bits else if t.kind=4 then .mk t.kind 0 0 ⟨#[]⟩ t.func 0 [] t.bytes t.bits else if t.kind=5 then .mk t.kind t.int t.gen ⟨#[]⟩ ⟨#[]⟩ 0 t.items t.bytes t.bits else if t.kind=6 then .mk t.kind 0 0 ⟨#[]⟩ t.func t.arity t.items t.bytes t.bits else if t.kind=7 then .mk t.kind t.int t.gen t.name t.func t.arity [] t.bytes t.bits else if t.kind=8 then .mk t.kind t.int t.gen t.name t.func t.arity t.items t.bytes t.bits else if t.kind=9 then .mk t.kind t.int t.gen t.name t.func t.arity [] t.bytes t.bits else if t.kind=10 then .mk t.kind t.int t.gen t.name t.func t.arity t.items ⟨#[]⟩ 0 else t
def zeP:Tm:=.mk 0 0 0 ⟨#[]⟩ ⟨#[]⟩ 0 [] ⟨#[]⟩ 0
def zf6 (t:Tm):Tm:=.mk 0 (zd t).int (zd t).gen (zd t).name (zd t).func (zd t).arity (zd t).items (zd t).bytes (zd t).bits
theorem zqF (s:ByteArray):(s.toList==(ByteArray.mk #[]).toList)=zS s:=by
 unfold zS;rw [zzq10,zzq10];rw [Bool.eq_iff_iff,beq_iff_eq,decide_eq_true_eq];constructor
 ·intro h
  have h2:s.data.toList.length=0:=congrArg List.length h;rw [Array.length_toList]at h2;exact h2
 ·intro h
  have:s.data.size=0:=h;have:s.data=#[]:=Array.eq_empty_of_size_eq_zero this;rw [this]
theorem zeS (n:Int):(n==0)=zI n:=by unfold zI;rw [Bool.eq_iff_iff,beq_iff_eq,decide_eq_true_eq]
theorem zsB (rec:Tm->Tm->Bool) (l:List Tm):zcG rec l []=zL l:=by cases l<;>rfl
theorem zsj:zS (ByteArray.mk #[])=true:=rfl
theorem zsm:zI 0=true:=rfl
theorem zsa:zL []=true:=rfl
theorem ziR (f:Nat) (a:Tm):zcs (f+1) a zeP=(zI a.kind&&(zI a.int&&(zI a.gen&&(zS a.name&&(zS a.func&&(zI a.arity&&(zS a.bytes&&zI a.bits))))))&&zL a.items):=by
 unfold zcs zjA zeP;simp only [Tm.kind,Tm.int,Tm.gen,Tm.name,Tm.func,Tm.arity,Tm.items,Tm.bytes,Tm.bits,zqF,zeS,zsB]
theorem ze3 {t:Tm} (h: ¬(t.kind=1∨t.kind=2∨t.kind=3∨t.kind=4∨t.kind=5∨t.kind=6∨t.kind=7∨t.kind=8∨t.kind=9∨t.kind=10)):okK t=false:=by
 unfold okK;simp only [not_or]at h;obtain⟨h1,h2,h3,h4,h5,h6,h7,h8,h9,h10⟩:=h;rw [if_neg h1,if_neg h2,if_neg (by omega),if_neg h4,if_neg h5,if_neg h7,if_neg h8,if_neg h9,if_neg h10]
theorem zm8 (n m:Nat):decide (n<=m)=decide ((n:Int)<=(m:Int)):=by rw [Bool.eq_iff_iff,decide_eq_true_eq,decide_eq_true_eq];omega
theorem znp (f:Nat) (t:Tm):(okK t&&zcs (f+1) (zf6 t) zeP)=zcH t:=by
 rw [ziR];obtain⟨tk,ti,tg,tn,tf,ta,tl,ty,tz⟩:=t;by_cases h:tk=1∨tk=2∨tk=3∨tk=4∨tk=5∨tk=6∨tk=7∨tk=8∨tk=9∨tk=10
 ·unfold zf6 zcH
  rcases h with rfl|rfl|rfl|rfl|rfl|rfl|rfl|rfl|rfl|rfl
  all_goals
   generalize okK (Tm.mk _ ti tg tn tf ta tl ty tz)=q;simp only [zd,zcW,Tm.kind,Tm.int,Tm.gen,Tm.name,Tm.func,Tm.arity,Tm.items,Tm.bytes,Tm.bits];simp [zsj,zsm,zsa]
   try(cases q<;>cases zI ti<;>cases zI tg<;>cases zS tn<;>cases zS tf<;>cases zI ta<;>cases zL tl<;>cases zS ty<;>cases zI tz<;>rfl)
 ·have:okK (Tm.mk tk ti tg tn tf ta tl ty tz)=false:=ze3 h
  unfold zcH;rw [this,Bool.false_and,Bool.false_and]
def zcQ (w0 w:World) (f:Nat) (t:Tm) (e:Ending) (w':World):Prop:= ∃so' c',e= .returned (.tuple #[.agg #[.int .i64 (zd t).kind,.int .i64 (zd t).int,.int .i64 (zd t).gen,.string (zd t).name,.string (zd t).func,.int .i64 (zd t).arity,.slice so' (zd t).items.length c',.string (zd t).bytes,.int .i64 (zd t).bits],.bool (okK t)]) /\
 SlAt w0 9 (TmAt w0 f) so' (zd t).items/\Below w.heap.size w w'
section
variable (t:Tm) (so:Option Addr) (c f:Nat) (w0 w:World)
theorem zrZ (hs:SlAt w0 9 (TmAt w0 f) so t.items) (hk:t.kind=0):Calls Tryz.prog 161 #[.agg #[.int .i64 t.kind,.int .i64 t.int,.int .i64 t.gen,.string t.name,.string t.func,.int .i64 t.arity,.slice so t.items.length c,.string t.bytes,.int .i64 t.bits]] w (zcQ w0 w f t):=by
 have e1:zd t=t:=by unfold zd;simp [hk]
 have e2:okK t=false:=by unfold okK;simp [hk]
 refine(znb t.kind t.int t.gen t.name t.func t.arity so t.items.length c t.bytes t.bits w).mono ?_;exact zz23
theorem zrm (hs:SlAt w0 9 (TmAt w0 f) so t.items) (hk:t.kind=1):Calls Tryz.prog 162 #[.agg #[.int .i64 t.kind,.int .i64 t.int,.int .i64 t.gen,.string t.name,.string t.func,.int .i64 t.arity,.slice so t.items.length c,.string t.bytes,.int .i64 t.bits]] w (zcQ w0 w f t):=by
 have e1:zd t= .mk t.kind 0 t.gen t.name t.func t.arity t.items t.bytes t.bits:=by unfold zd;simp [hk]
 have e2:okK t=true:=by unfold okK;simp [hk]
 refine(zqt t.kind t.int t.gen t.name t.func t.arity so t.items.length c t.bytes t.bits w).mono ?_;exact zz23
theorem zrg (hs:SlAt w0 9 (TmAt w0 f) so t.items) (hk:t.kind=2):Calls Tryz.prog 163 #[.agg #[.int .i64 t.kind,.int .i64 t.int,.int .i64 t.gen,.string t.name,.string t.func,.int .i64 t.arity,.slice so t.items.length c,.string t.bytes,.int .i64 t.bits]] w (zcQ w0 w f t):=by
 have e1:zd t= .mk t.kind t.int t.gen ⟨#[]⟩ t.func t.arity t.items t.bytes t.bits:=by unfold zd;simp [hk]
 have e2:okK t=zB t.name:=by unfold okK;simp [hk]
 refine(zn6 t.kind t.int t.gen t.name t.func t.arity so t.items.length c t.bytes t.bits w).mono ?_;exact zz23
theorem zro (hs:SlAt w0 9 (TmAt w0 f) so t.items) (hk:t.kind=3):Calls Tryz.prog 159 #[.agg #[.int .i64 t.kind,.int .i64 t.int,.int .i64 t.gen,.string t.name,.string t.func,.int .i64 t.arity,.slice so t.items.length c,.string t.bytes,.int .i64 t.bits]] w (zcQ w0 w f t):=by
 exact zz24
theorem zrt (hs:SlAt w0 9 (TmAt w0 f) so t.items) (hk:t.kind=4):Calls Tryz.prog 164 #[.agg #[.int .i64 t.kind,.int .i64 t.int,.int .i64 t.gen,.string t.name,.string t.func,.int .i64 t.arity,.slice so t.items.length c,.string t.bytes,.int .i64 t.bits]] w (zcQ w0 w f t):=by
 have e1:zd t= .mk t.kind 0 0 ⟨#[]⟩ t.func 0 [] t.bytes t.bits:=by unfold zd;simp [hk]
 have e2:okK t=(wi t.int 0 999&&wi t.gen 1 2147483647&&zB t.name&&wi t.arity 0 16&&decide ((t.items.length:Int)<=(200:Nat))):=by rw [<-zm8];unfold okK;simp [hk]
 refine(zj8 t.kind t.int t.gen t.name t.func t.arity so t.items.length c t.bytes t.bits w).mono ?_;exact zz25
theorem zrB (hs:SlAt w0 9 (TmAt w0 f) so t.items) (hk:t.kind=5):Calls Tryz.prog 165 #[.agg #[.int .i64 t.kind,.int .i64 t.int,.int .i64 t.gen,.string t.name,.string t.func,.int .i64 t.arity,.slice so t.items.length c,.string t.bytes,.int .i64 t.bits]] w (zcQ w0 w f t):=by
 have e1:zd t= .mk t.kind t.int t.gen ⟨#[]⟩ ⟨#[]⟩ 0 t.items t.bytes t.bits:=by unfold zd;simp [hk]
 have e2:okK t=(zB t.name&&zB t.func&&wi t.arity 0 16):=by unfold okK;simp [hk]
 refine(zkK t.kind t.int t.gen t.name t.func t.arity so t.items.length c t.bytes t.bits w).mono ?_;exact zz23
theorem zrr (hs:SlAt w0 9 (TmAt w0 f) so t.items) (hk:t.kind=6):Calls Tryz.prog 159 #[.agg #[.int .i64 t.kind,.int .i64 t.int,.int .i64 t.gen,.string t.name,.string t.func,.int .i64 t.arity,.slice so t.items.length c,.string t.bytes,.int .i64 t.bits]] w (zcQ w0 w f t):=by
 exact zz24
theorem zrF (hs:SlAt w0 9 (TmAt w0 f) so t.items) (hk:t.kind=7):Calls Tryz.prog 166 #[.agg #[.int .i64 t.kind,.int .i64 t.int,.int .i64 t.gen,.string t.name,.string t.func,.int .i64 t.arity,.slice so t.items.length c,.string t.bytes,.int .i64 t.bits]] w (zcQ w0 w f t):=by
 have e1:zd t= .mk t.kind t.int t.gen t.name t.func t.arity [] t.bytes t.bits:=by unfold zd;simp [hk]
 have e2:okK t=decide ((t.items.length:Int)<=(255:Nat)):=by rw [<-zm8];unfold okK;simp [hk]
 refine(zmA t.kind t.int t.gen t.name t.func t.arity so t.items.length c t.bytes t.bits w).mono ?_;exact zz25
theorem zrH (hs:SlAt w0 9 (TmAt w0 f) so t.items) (hk:t.kind=8):Calls Tryz.prog 167 #[.agg #[.int .i64 t.kind,.int .i64 t.int,.int .i64 t.gen,.string t.name,.string t.func,.int .i64 t.arity,.slice so t.items.length c,.string t.bytes,.int .i64 t.bits]] w (zcQ w0 w f t):=by
 have e1:zd t= .mk t.kind t.int t.gen t.name t.func t.arity t.items t.bytes t.bits:=by unfold zd;simp [hk]
 have e2:okK t=true:=by unfold okK;simp [hk]
 refine(zp6 t.kind t.int t.gen t.name t.func t.arity so t.items.length c t.bytes t.bits w).mono ?_;exact zz23
theorem zrj (hs:SlAt w0 9 (TmAt w0 f) so t.items) (hb:Below w0.heap.size w0 w) (hl:t.items.length<=maxLen) (hk:t.kind=9):Calls Tryz.prog 168 #[.agg #[.int .i64 t.kind,.int .i64 t.int,.int .i64 t.gen,.string t.name,.string t.func,.int .i64 t.arity,.slice so t.items.length c,.string t.bytes,.int .i64 t.bits]] w (zcQ w0 w f t):=by
 have e1:zd t= .mk t.kind t.int t.gen t.name t.func t.arity [] t.bytes t.bits:=by unfold zd;simp [hk]
 have e2:okK t=(decide (2<=t.items.length)&&decide (zgo t.items≠9)):=by unfold okK;simp [hk]
 by_cases h2:t.items.length<2
 ·refine(zmD t.kind t.int t.gen t.name t.func t.arity so t.items.length c t.bytes t.bits w h2).mono ?_
  rintro e w' ⟨rfl,hb'⟩;refine⟨none,0,?_,?_,hb'⟩
  ·rw [e1,e2,decide_eq_false (by omega)];rfl
  ·rw [e1];exact SlAt.nil w0 9 _ none
 ·obtain⟨m,hm⟩: ∃m,t.items.length=m+2:=⟨t.items.length-2,by omega⟩
  have hm1:m+1<t.items.length:=by omega
  have hbf:=hs.row hm1;obtain⟨b,off,rfl,hbl,hrow⟩:=hbf;obtain⟨cs,_,hcs,hR⟩:=hrow (m+1) hm1
  have hcell:w.cell? ⟨b,off+(m+1)*9,none⟩=some (.int .i64 (t.items[m+1]).kind):=by
   refine(hb.cell (p:=⟨b,off+(m+1)*9,none⟩) hbl).trans ?_;rw [show off+(m+1)*9=off+(m+1)*9+0 by rfl,hcs 0 (by decide)]
   cases f with
   |zero=>exact hR.elim
   |succ f=>obtain⟨⟨ai,ci,rfl,_⟩,_⟩:=hR;rfl
  have hk9:zgo t.items=(t.items[m+1]).kind:=by
   unfold zgo;rw [List.getLast?_eq_getElem?,hm,show m+2-1=m+1 by rfl,zzq8 hm1]
  unfold maxLen at hl;have h:=zmR t.kind t.int t.gen t.name t.func t.arity c t.bytes t.bits w b off m (t.items[m+1]).kind (by omega) (zzW hbl hb.size) hcell;rw [<-hm]at h;refine h.mono ?_;rintro e w' ⟨rfl,hb'⟩;refine⟨none,0,?_,?_,hb'⟩
  ·rw [e1, e2, decide_eq_true (by omega), hk9, Bool.true_and, show (t.items[m + 1].kind != 9) = decide (t.items[m + 1].kind ≠ 9) by (rw [Bool.eq_iff_iff, bne_iff_ne, decide_eq_true_eq])]; rfl
  ·rw [e1];exact SlAt.nil w0 9 _ none
theorem zoZ (hs:SlAt w0 9 (TmAt w0 f) so t.items) (hy:t.bytes.size<=maxLen) (hz:I64 t.bits) (hk:t.kind=10):Calls Tryz.prog 169 #[.agg #[.int .i64 t.kind,.int .i64 t.int,.int .i64 t.gen,.string t.name,.string t.func,.int .i64 t.arity,.slice so t.items.length c,.string t.bytes,.int .i64 t.bits]] w (zcQ w0 w f t):=by
 have e1:zd t= .mk t.kind t.int t.gen t.name t.func t.arity t.items ⟨#[]⟩ 0:=by unfold zd;simp [hk]
 have e2:okK t=zcz t.bytes t.bits:=by unfold okK zgG;simp [hk]
 refine(zoK t.kind t.int t.gen t.name t.func t.arity so t.items.length c t.bytes t.bits w hy hz).mono ?_;exact zz23
end
def MeasAt (M:Nat) (s:Int) (w:World):Prop:=w.heap[M]?=some (.cells #[.func (.func 161) #[] #[],.func (.func 162) #[] #[],.func (.func 163) #[] #[],.func (.func 159) #[] #[],.func (.func 164) #[] #[],.func (.func 165) #[] #[],.func (.func 159) #[] #[],.func (.func 166) #[] #[],.func (.func 167) #[] #[],.func (.func 168) #[] #[],.func (.func 169) #[] #[],.int .i64 s] 194 (0,0))
theorem zbl {W w:World} (h:Below W.heap.size W w):W.heap.size<=w.heap.size/\ ∀b o,b<W.heap.size->w.cell? ⟨b,o,none⟩=W.cell? ⟨b,o,none⟩:=⟨h.size,fun b o hb=>h.cell (p:=⟨b,o,none⟩) hb⟩
theorem zbW {W w:World} {o:Obj} (h:W.heap.size<=w.heap.size/\ ∀b o,b<W.heap.size->w.cell? ⟨b,o,none⟩=W.cell? ⟨b,o,none⟩):W.heap.size<=(w.alloc o).heap.size/\ ∀b q,b<W.heap.size->(w.alloc o).cell? ⟨b,q,none⟩=W.cell? ⟨b,q,none⟩:=
 ⟨by have:=h.1;simp;omega,fun b q hb=>(((zzR w.heap.size w).alloc (zzL _) o).cell (p:=⟨b,q,none⟩) (zzW hb h.1)).trans (h.2 b q hb)⟩
theorem zeO {W w:World} {q:Nat} {v:Value} (h:W.heap.size<=w.heap.size/\ ∀b o,b<W.heap.size->w.cell? ⟨b,o,none⟩=W.cell? ⟨b,o,none⟩):W.heap.size<=(w.setCell ⟨W.heap.size,q,none⟩ v).heap.size/\ ∀b o,b<W.heap.size->(w.setCell ⟨W.heap.size,q,none⟩ v).cell? ⟨b,o,none⟩=W.cell? ⟨b,o,none⟩:=
 ⟨by simpa [World.setCell] using h.1,fun b o hb=>(World.cell?_of_block (Below.heap_setCell _ _ _ _ (Nat.ne_of_lt hb))).trans (h.2 b o hb)⟩
theorem zdW {W w:World} {v0 v1 v2 v3 v4 v5 v6 v7 v8:Value} (h:W.heap.size<=w.heap.size/\ ∀b o,b<W.heap.size->w.cell? ⟨b,o,none⟩=W.cell? ⟨b,o,none⟩):
  W.heap.size<=(((((((((w.setCell ⟨W.heap.size,0,none⟩ v0).setCell ⟨W.heap.size,1,none⟩ v1).setCell ⟨W.heap.size,2,none⟩ v2).setCell ⟨W.heap.size,3,none⟩ v3).setCell ⟨W.heap.size,4,none⟩ v4).setCell ⟨W.heap.size,5,none⟩ v5).setCell ⟨W.heap.size,6,none⟩ v6).setCell ⟨W.heap.size,7,none⟩ v7).setCell ⟨W.heap.size,8,none⟩ v8).heap.size /\
   ∀b o,b<W.heap.size->(((((((((w.setCell ⟨W.heap.size,0,none⟩ v0).setCell ⟨W.heap.size,1,none⟩ v1).setCell ⟨W.heap.size,2,none⟩ v2).setCell ⟨W.heap.size,3,none⟩ v3).setCell ⟨W.heap.size,4,none⟩ v4).setCell ⟨W.heap.size,5,none⟩ v5).setCell ⟨W.heap.size,6,none⟩ v6).setCell ⟨W.heap.size,7,none⟩ v7).setCell ⟨W.heap.size,8,none⟩ v8).cell? ⟨b,o,none⟩=W.cell? ⟨b,o,none⟩:=
 zeO (zeO (zeO (zeO (zeO (zeO (zeO (zeO (zeO h))))))))
def zcw:List Nat->Nat
 |[]=>0
 |x::l=>x+zcw l
def zR:Nat->Tm->Nat
 |0,_=>0
 |f+1,t=>300+t.items.length+zcw (t.items.map (zR f))
def zft (M:Nat) (s:Int) (cap:Nat) (ok:Bool) (add:Int) (w w':World):Prop:=w.grownBy w' (some M)/\ ∃s':Int,s<=s'/\s'<=s+cap/\MeasAt M s' w'/\(ok=true->s'=s+add)
def OfP (f:Nat):Prop:= ∀(t:Tm) (so:Option Addr) (c M:Nat) (s:Int) (w0 w:World),SlAt w0 9 (TmAt w0 f) so t.items->t.Ok->Below w0.heap.size w0 w->w0.heap.size<=M->MeasAt M s w->0<=s->s+zR (f+1) t<=1152921504606846976 ->
 Calls Tryz.prog 137 #[.pointer (some ⟨M,0,none⟩),.agg #[.int .i64 t.kind,.int .i64 t.int,.int .i64 t.gen,.string t.name,.string t.func,.int .i64 t.arity,.slice so t.items.length c,.string t.bytes,.int .i64 t.bits]] w fun e w'=>e= .returned (.bool (zj (f+1) t))/\zft M s (zR (f+1) t) (zj (f+1) t) (zx (f+1) t) w w'
def CfP (f:Nat):Prop:= ∀(l:List Tm) (ao:Option Addr) (c M mb:Nat) (s:Int) (w0 w:World),SlAt w0 9 (TmAt w0 f) ao l->l.length<=maxLen->Below w0.heap.size w0 w->w0.heap.size<=M->MeasAt M s w->w.heap[mb]?=some (.cells #[.pointer (some ⟨M,0,none⟩)] 189 (0,0))->mb≠M->0<=s->s+zcw (l.map (zR f))<=1152921504606846976 ->
 Calls Tryz.prog 171 #[.slice ao l.length c,.func (.func 172) #[] #[.pointer (some ⟨mb,0,none⟩)]] w fun e w'=>e= .returned (.bool (!(l.all (zj f))))/\zft M s (zcw (l.map (zR f))) (l.all (zj f)) (zbP (l.map (zx f))) w w'
theorem zG (w:World) (r o:Nat) (v:Value):w.grownBy (w.setCell ⟨r,o,none⟩ v) (some r):=
 ⟨rfl,rfl,rfl,by simp [World.setCell],fun k _ hk=>Below.heap_setCell _ _ _ _ (fun e=>hk (by rw [e]))⟩
theorem zb5 (w:World) (o:Option Nat):w.grownBy w o:=⟨rfl,rfl,rfl,zzL _,fun _ _ _=>rfl⟩
theorem zh {a b c:World} {o:Option Nat} (h:a.grownBy b o) (h':b.grownBy c o):a.grownBy c o:=
 ⟨h'.os.trans h.os,h'.tape.trans h.tape,h'.output.trans h.output,zzY h.size h'.size,fun k hk hn=>(h'.block k (zzW hk h.size) hn).trans (h.block k hk hn)⟩
theorem zdm {a b:World} {o:Option Nat} (h:a.grownBy b o) (n:Nat):a.grownBy (b.drewN n) o:=⟨h.os,h.tape,h.output,h.size,h.block⟩
theorem zfH {a b:World} {o:Option Nat} (h:a.grownBy b o):a.grownBy b.drew o:=⟨h.os,h.tape,h.output,h.size,h.block⟩
theorem zbf {a b:World} (h:Below a.heap.size a b) (o:Option Nat):a.grownBy b o:=⟨h.os,h.tape,h.output,h.size,fun k hk _=>h.block k hk⟩
theorem zhA {M:Nat} {s s':Int} {w:World} (h:MeasAt M s w):MeasAt M s' (w.setCell ⟨M,11,none⟩ (.int .i64 s')):=zzS _ _ 11 _ _ (.int .i64 s') h
theorem MeasAt.below {M:Nat} {s:Int} {w w':World} (h:MeasAt M s w) (hb:Below w.heap.size w w'):MeasAt M s w':=(hb.block M (zc h)).trans h
theorem MeasAt.cell {M:Nat} {s:Int} {w:World} (h:MeasAt M s w):w.cell? ⟨M,11,none⟩=some (.int .i64 s)/\w.frozen? ⟨M,11,none⟩=false:=⟨zzq2 _ _ 11 _ _ _ h,zzq9 _ _ 11 _ _ h⟩
theorem zdV {w0 a b:World} {M:Nat} (h:Below w0.heap.size w0 a) (hg:a.grownBy b (some M)) (hM:w0.heap.size<=M):Below w0.heap.size w0 b:=h.grown hg h.size (fun k hk=>by cases hk;exact hM)
theorem zcD (t:Tm):(zd t).items.length<=t.items.length:=by
 unfold zd
 repeat' split
 all_goals first|exact zzL _|exact zzZ _
theorem zlL {t:Tm} (h:zcH t=true) (hk:t.kind=10):0<=t.bits/\t.bits<=16384:=by
 unfold zcH okK zgG zcz wi at h;simp only [hk]at h;simp at h;omega
theorem zm6 {t:Tm} (h:zcH t=true) (hk:t.kind=9):2<=t.items.length:=by
 unfold zcH okK at h;simp only [hk]at h;simp at h;omega
theorem zod {t:Tm} (h: ¬(0<=t.kind/\t.kind<11)):zcH t=false:=by
 unfold zcH;rw [ze3 (by omega)];rfl
theorem zsf {f:Nat} (t:Tm) (so:Option Addr) (c M:Nat) (s:Int) (w0 w:World) (hm:MeasAt M s w) (hk: ¬(0<=t.kind/\t.kind<11)):
  Calls Tryz.prog 137 #[.pointer (some ⟨M,0,none⟩),.agg (zzt t so c)] w fun e w'=>e= .returned (.bool (zj (f+1) t))/\zft M s (zR (f+1) t) (zj (f+1) t) (zx (f+1) t) w w':=by
 unfold zzt;have E:Hid (zj (f+1) t=false):=zzH (by unfold zj;rw [zod hk];rfl);have H2:=zzH (zU w (.cells #[.pointer (some ⟨M,0,none⟩)] 189) (.cells #[.int .i64 t.kind,.int .i64 t.int,.int .i64 t.gen,.string t.name,.string t.func,.int .i64 t.arity,.slice so t.items.length c,.string t.bytes,.int .i64 t.bits] 47));by_cases h0:t.kind<0
 ·exact zz26
 ·have h1:11<=t.kind:=by omega
  have h0':0<=t.kind:=by omega
  clear hk h0;exact zz26
theorem zsC {f:Nat} (HC:Hid (CfP f)) (t:Tm) (so:Option Addr) (c M:Nat) (s:Int) (w0 w:World) (ht:SlAt w0 9 (TmAt w0 f) so t.items) (hok:t.Ok) (hb:Below w0.heap.size w0 w) (hM:w0.heap.size<=M) (hm:MeasAt M s w) (hs0:0<=s) (hs1:s+zR (f+1) t<=1152921504606846976) (hk0:0<=t.kind) (hk1:t.kind<11):
  Calls Tryz.prog 137 #[.pointer (some ⟨M,0,none⟩),.agg (zzt t so c)] w fun e w'=>e= .returned (.bool (zj (f+1) t))/\zft M s (zR (f+1) t) (zj (f+1) t) (zx (f+1) t) w w':=by
 unfold zzt;have hMl:=zc hm;have HT:=zzH ht;have HOK:=zzH hok;have HB:=zzH hb;have HM:=zzH hm;clear ht hok hb hm;generalize hkt:t.kind=tk at *;have HKT:=zzH hkt;clear hkt;go_in;go_upto_region 3 with fail;have r0:=zem w (.cells #[.pointer (some ⟨M,0,none⟩)] 189) (.cells #[.int .i64 tk,.int .i64 t.int,.int .i64 t.gen,.string t.name,.string t.func,.int .i64 t.arity,.slice so t.items.length c,.string t.bytes,.int .i64 t.bits] 47);have r1:=zd0 w (.cells #[.pointer (some ⟨M,0,none⟩)] 189) (.cells #[.int .i64 tk,.int .i64 t.int,.int .i64 t.gen,.string t.name,.string t.func,.int .i64 t.arity,.slice so t.items.length c,.string t.bytes,.int .i64 t.bits] 47);have hB2:=zU w (.cells #[.pointer (some ⟨M,0,none⟩)] 189) (.cells #[.int .i64 tk,.int .i64 t.int,.int .i64 t.gen,.string t.name,.string t.func,.int .i64 t.arity,.slice so t.items.length c,.string t.bytes,.int .i64 t.bits] 47);have HM2:=zzH (HM.out.below hB2);have hMl2:M<((w.alloc (.cells #[.pointer (some ⟨M,0,none⟩)] 189)).alloc (.cells #[.int .i64 tk,.int .i64 t.int,.int .i64 t.gen,.string t.name,.string t.func,.int .i64 t.arity,.slice so t.items.length c,.string t.bytes,.int .i64 t.bits] 47)).heap.size:=zzW hMl hB2.size;generalize(w.alloc (.cells #[.pointer (some ⟨M,0,none⟩)] 189)).alloc (.cells #[.int .i64 tk,.int .i64 t.int,.int .i64 t.gen,.string t.name,.string t.func,.int .i64 t.arity,.slice so t.items.length c,.string t.bytes,.int .i64 t.bits] 47)=W2 at *;have HB2:=zzH hB2;have hBM:M<w.heap.size:=hMl;have HMB:Hid (w.heap.size≠M):=zzH (Nat.ne_of_gt hMl);have HWB:Hid (w0.heap.size<=w.heap.size):=zzH HB.out.size;have HML:=zzH hBM;obtain⟨q0,q1,q2,q3,q4,q5,q6,q7,q8,z1⟩:=zf r1;have b0:W2.cell? ⟨w.heap.size,0,none⟩=some (.pointer (some ⟨M,0,none⟩)):=by rw [zzq2 _ _ _ _ _ _ r0];rfl
 have hl0:=zc r0;have hl1:=zc r1;have R0:=zzH r0;have R1:=zzH r1;clear z1 r0 r1 hB2 hMl hBM;generalize hBe:w.heap.size=B at *;have HBW2:Hid (Below w.heap.size w W2):=zzH (by rw [hBe];exact HB2.out);have HBE:=zzH hBe;clear hBe;go_cut [5,6] (fun s5 s6 wx=> ∃(L:Nat) (so':Option Addr) (c':Nat),s5= .pointer (some ⟨L,0,none⟩)/\s6= .bool (okK t)/\W2.heap.size<=L/\SlAt w0 9 (TmAt w0 f) so' (zd t).items/\wx.heap[L]?=some (.cells #[.int .i64 (zd t).kind,.int .i64 (zd t).int,.int .i64 (zd t).gen,.string (zd t).name,.string (zd t).func,.int .i64 (zd t).arity,.slice so' (zd t).items.length c',.string (zd t).bytes,.int .i64 (zd t).bits] 47 (0,0))/\Below W2.heap.size W2 wx)
 case first=>
  have HDR:=zzH ((zzR W2.heap.size W2).drew);have HDA:=zzH (((zzR W2.heap.size W2).alloc (zzL _) (.cells #[.int .i64 0,.int .i64 0,.int .i64 0,.string ⟨#[]⟩,.string ⟨#[]⟩,.int .i64 0,.slice none 0 0,.string ⟨#[]⟩,.int .i64 0] 47)).drew);have SK0:=zzH (zbl HDR.out);have SK1:=zzH (zbl HDA.out);have HAN:Hid ((W2.alloc (.cells #[.int .i64 0,.int .i64 0,.int .i64 0,.string ⟨#[]⟩,.string ⟨#[]⟩,.int .i64 0,.slice none 0 0,.string ⟨#[]⟩,.int .i64 0] 47)).drew.heap[W2.heap.size]?=some (.cells zo 47 (0,0))):=zzH (heap_alloc_new W2 _)
  have hkk:tk=0∨tk=1∨tk=2∨tk=3∨tk=4∨tk=5∨tk=6∨tk=7∨tk=8∨tk=9∨tk=10:=by omega
  clear hk0 hk1 hs0 hs1;rcases hkk with rfl|rfl|rfl|rfl|rfl|rfl|rfl|rfl|rfl|rfl|rfl
  ·have hQ: ∀wx,Calls Tryz.prog 161 #[.agg #[.int .i64 0,.int .i64 t.int,.int .i64 t.gen,.string t.name,.string t.func,.int .i64 t.arity,.slice so t.items.length c,.string t.bytes,.int .i64 t.bits]] wx (zcQ w0 wx f t):=fun wx=>by have h:=zrZ t so c f w0 wx HT.out HKT.out;rwa [HKT.out]at h
   have n0:W2.cell? ⟨M,0,none⟩=some (.func (.func 161) #[] #[]):=zzq2 _ _ 0 _ _ _ HM2.out
   first|go_region_held3 (fun w'=>W2.heap.size<=w'.heap.size/\ ∀b o,b<W2.heap.size->w'.cell? ⟨b,o,none⟩=W2.cell? ⟨b,o,none⟩) (first|with_reducible exact HK5.out|with_reducible exact SK0.out|with_reducible exact zbW SK0.out|with_reducible exact SK1.out|with_reducible exact zbW HK5.out|with_reducible exact zdW HK5.out)
    ((go_at_call 161;refine(hQ _).mono ?_;rintro e w5 ⟨so',c',rfl,hs',hb5⟩;first|(have hbb:Below W2.heap.size W2 w5:=(by with_reducible exact ze HDR.out hb5);have HK5:=zzH (zbl hbb))|(have hbb:Below W2.heap.size W2 w5:=(by with_reducible exact ze HDA.out hb5);have xl:w5.heap[W2.heap.size]?=some (.cells zo 47 (0,0)):=(hb5.block W2.heap.size (zc HAN.out)).trans HAN.out;have XL:=zzH xl;obtain⟨l0,l1,l2,l3,l4,l5,l6,l7,l8,lz⟩:=zf xl;clear xl;have HK5:=zzH (zbl hbb))))|fail
   ·exact zz30
   ·exact zz29
  ·have hQ: ∀wx,Calls Tryz.prog 162 #[.agg #[.int .i64 1,.int .i64 t.int,.int .i64 t.gen,.string t.name,.string t.func,.int .i64 t.arity,.slice so t.items.length c,.string t.bytes,.int .i64 t.bits]] wx (zcQ w0 wx f t):=fun wx=>by have h:=zrm t so c f w0 wx HT.out HKT.out;rwa [HKT.out]at h
   have n0:W2.cell? ⟨M,1,none⟩=some (.func (.func 162) #[] #[]):=zzq2 _ _ 1 _ _ _ HM2.out
   first|go_region_held3 (fun w'=>W2.heap.size<=w'.heap.size/\ ∀b o,b<W2.heap.size->w'.cell? ⟨b,o,none⟩=W2.cell? ⟨b,o,none⟩) (first|with_reducible exact HK5.out|with_reducible exact SK0.out|with_reducible exact zbW SK0.out|with_reducible exact SK1.out|with_reducible exact zbW HK5.out|with_reducible exact zdW HK5.out)
    ((go_at_call 162;refine(hQ _).mono ?_;rintro e w5 ⟨so',c',rfl,hs',hb5⟩;first|(have hbb:Below W2.heap.size W2 w5:=(by with_reducible exact ze HDR.out hb5);have HK5:=zzH (zbl hbb))|(have hbb:Below W2.heap.size W2 w5:=(by with_reducible exact ze HDA.out hb5);have xl:w5.heap[W2.heap.size]?=some (.cells zo 47 (0,0)):=(hb5.block W2.heap.size (zc HAN.out)).trans HAN.out;have XL:=zzH xl;obtain⟨l0,l1,l2,l3,l4,l5,l6,l7,l8,lz⟩:=zf xl;clear xl;have HK5:=zzH (zbl hbb))))|fail
   ·exact zz30
   ·exact zz29
  ·have hQ: ∀wx,Calls Tryz.prog 163 #[.agg #[.int .i64 2,.int .i64 t.int,.int .i64 t.gen,.string t.name,.string t.func,.int .i64 t.arity,.slice so t.items.length c,.string t.bytes,.int .i64 t.bits]] wx (zcQ w0 wx f t):=fun wx=>by have h:=zrg t so c f w0 wx HT.out HKT.out;rwa [HKT.out]at h
   have n0:W2.cell? ⟨M,2,none⟩=some (.func (.func 163) #[] #[]):=zzq2 _ _ 2 _ _ _ HM2.out
   first|go_region_held3 (fun w'=>W2.heap.size<=w'.heap.size/\ ∀b o,b<W2.heap.size->w'.cell? ⟨b,o,none⟩=W2.cell? ⟨b,o,none⟩) (first|with_reducible exact HK5.out|with_reducible exact SK0.out|with_reducible exact zbW SK0.out|with_reducible exact SK1.out|with_reducible exact zbW HK5.out|with_reducible exact zdW HK5.out)
    ((go_at_call 163;refine(hQ _).mono ?_;rintro e w5 ⟨so',c',rfl,hs',hb5⟩;first|(have hbb:Below W2.heap.size W2 w5:=(by with_reducible exact ze HDR.out hb5);have HK5:=zzH (zbl hbb))|(have hbb:Below W2.heap.size W2 w5:=(by with_reducible exact ze HDA.out hb5);have xl:w5.heap[W2.heap.size]?=some (.cells zo 47 (0,0)):=(hb5.block W2.heap.size (zc HAN.out)).trans HAN.out;have XL:=zzH xl;obtain⟨l0,l1,l2,l3,l4,l5,l6,l7,l8,lz⟩:=zf xl;clear xl;have HK5:=zzH (zbl hbb))))|fail
   ·exact zz30
   ·exact zz29
  ·have hQ: ∀wx,Calls Tryz.prog 159 #[.agg #[.int .i64 3,.int .i64 t.int,.int .i64 t.gen,.string t.name,.string t.func,.int .i64 t.arity,.slice so t.items.length c,.string t.bytes,.int .i64 t.bits]] wx (zcQ w0 wx f t):=fun wx=>by have h:=zro t so c f w0 wx HT.out HKT.out;rwa [HKT.out]at h
   have n0:W2.cell? ⟨M,3,none⟩=some (.func (.func 159) #[] #[]):=zzq2 _ _ 3 _ _ _ HM2.out;exact zz27
  ·have hQ: ∀wx,Calls Tryz.prog 164 #[.agg #[.int .i64 4,.int .i64 t.int,.int .i64 t.gen,.string t.name,.string t.func,.int .i64 t.arity,.slice so t.items.length c,.string t.bytes,.int .i64 t.bits]] wx (zcQ w0 wx f t):=fun wx=>by have h:=zrt t so c f w0 wx HT.out HKT.out;rwa [HKT.out]at h
   have n0:W2.cell? ⟨M,4,none⟩=some (.func (.func 164) #[] #[]):=zzq2 _ _ 4 _ _ _ HM2.out
   first|go_region_held3 (fun w'=>W2.heap.size<=w'.heap.size/\ ∀b o,b<W2.heap.size->w'.cell? ⟨b,o,none⟩=W2.cell? ⟨b,o,none⟩) (first|with_reducible exact HK5.out|with_reducible exact SK0.out|with_reducible exact zbW SK0.out|with_reducible exact SK1.out|with_reducible exact zbW HK5.out|with_reducible exact zdW HK5.out)
    ((go_at_call 164;refine(hQ _).mono ?_;rintro e w5 ⟨so',c',rfl,hs',hb5⟩;first|(have hbb:Below W2.heap.size W2 w5:=(by with_reducible exact ze HDR.out hb5);have HK5:=zzH (zbl hbb))|(have hbb:Below W2.heap.size W2 w5:=(by with_reducible exact ze HDA.out hb5);have xl:w5.heap[W2.heap.size]?=some (.cells zo 47 (0,0)):=(hb5.block W2.heap.size (zc HAN.out)).trans HAN.out;have XL:=zzH xl;obtain⟨l0,l1,l2,l3,l4,l5,l6,l7,l8,lz⟩:=zf xl;clear xl;have HK5:=zzH (zbl hbb))))|fail
   ·exact zz30
   ·exact zz29
  ·have hQ: ∀wx,Calls Tryz.prog 165 #[.agg #[.int .i64 5,.int .i64 t.int,.int .i64 t.gen,.string t.name,.string t.func,.int .i64 t.arity,.slice so t.items.length c,.string t.bytes,.int .i64 t.bits]] wx (zcQ w0 wx f t):=fun wx=>by have h:=zrB t so c f w0 wx HT.out HKT.out;rwa [HKT.out]at h
   have n0:W2.cell? ⟨M,5,none⟩=some (.func (.func 165) #[] #[]):=zzq2 _ _ 5 _ _ _ HM2.out
   first|go_region_held3 (fun w'=>W2.heap.size<=w'.heap.size/\ ∀b o,b<W2.heap.size->w'.cell? ⟨b,o,none⟩=W2.cell? ⟨b,o,none⟩) (first|with_reducible exact HK5.out|with_reducible exact SK0.out|with_reducible exact zbW SK0.out|with_reducible exact SK1.out|with_reducible exact zbW HK5.out|with_reducible exact zdW HK5.out)
    ((go_at_call 165;refine(hQ _).mono ?_;rintro e w5 ⟨so',c',rfl,hs',hb5⟩;first|(have hbb:Below W2.heap.size W2 w5:=(by with_reducible exact ze HDR.out hb5);have HK5:=zzH (zbl hbb))|(have hbb:Below W2.heap.size W2 w5:=(by with_reducible exact ze HDA.out hb5);have xl:w5.heap[W2.heap.size]?=some (.cells zo 47 (0,0)):=(hb5.block W2.heap.size (zc HAN.out)).trans HAN.out;have XL:=zzH xl;obtain⟨l0,l1,l2,l3,l4,l5,l6,l7,l8,lz⟩:=zf xl;clear xl;have HK5:=zzH (zbl hbb))))|fail
   ·exact zz30
   ·exact zz29
  ·have hQ: ∀wx,Calls Tryz.prog 159 #[.agg #[.int .i64 6,.int .i64 t.int,.int .i64 t.gen,.string t.name,.string t.func,.int .i64 t.arity,.slice so t.items.length c,.string t.bytes,.int .i64 t.bits]] wx (zcQ w0 wx f t):=fun wx=>by have h:=zrr t so c f w0 wx HT.out HKT.out;rwa [HKT.out]at h
   have n0:W2.cell? ⟨M,6,none⟩=some (.func (.func 159) #[] #[]):=zzq2 _ _ 6 _ _ _ HM2.out;exact zz27
  ·have hQ: ∀wx,Calls Tryz.prog 166 #[.agg #[.int .i64 7,.int .i64 t.int,.int .i64 t.gen,.string t.name,.string t.func,.int .i64 t.arity,.slice so t.items.length c,.string t.bytes,.int .i64 t.bits]] wx (zcQ w0 wx f t):=fun wx=>by have h:=zrF t so c f w0 wx HT.out HKT.out;rwa [HKT.out]at h
   have n0:W2.cell? ⟨M,7,none⟩=some (.func (.func 166) #[] #[]):=zzq2 _ _ 7 _ _ _ HM2.out
   first|go_region_held3 (fun w'=>W2.heap.size<=w'.heap.size/\ ∀b o,b<W2.heap.size->w'.cell? ⟨b,o,none⟩=W2.cell? ⟨b,o,none⟩) (first|with_reducible exact HK5.out|with_reducible exact SK0.out|with_reducible exact zbW SK0.out|with_reducible exact SK1.out|with_reducible exact zbW HK5.out|with_reducible exact zdW HK5.out)
    ((go_at_call 166;refine(hQ _).mono ?_;rintro e w5 ⟨so',c',rfl,hs',hb5⟩;first|(have hbb:Below W2.heap.size W2 w5:=(by with_reducible exact ze HDR.out hb5);have HK5:=zzH (zbl hbb))|(have hbb:Below W2.heap.size W2 w5:=(by with_reducible exact ze HDA.out hb5);have xl:w5.heap[W2.heap.size]?=some (.cells zo 47 (0,0)):=(hb5.block W2.heap.size (zc HAN.out)).trans HAN.out;have XL:=zzH xl;obtain⟨l0,l1,l2,l3,l4,l5,l6,l7,l8,lz⟩:=zf xl;clear xl;have HK5:=zzH (zbl hbb))))|fail
   ·exact zz30
   ·exact zz29
  ·have hQ: ∀wx,Calls Tryz.prog 167 #[.agg #[.int .i64 8,.int .i64 t.int,.int .i64 t.gen,.string t.name,.string t.func,.int .i64 t.arity,.slice so t.items.length c,.string t.bytes,.int .i64 t.bits]] wx (zcQ w0 wx f t):=fun wx=>by have h:=zrH t so c f w0 wx HT.out HKT.out;rwa [HKT.out]at h
   have n0:W2.cell? ⟨M,8,none⟩=some (.func (.func 167) #[] #[]):=zzq2 _ _ 8 _ _ _ HM2.out
   first|go_region_held3 (fun w'=>W2.heap.size<=w'.heap.size/\ ∀b o,b<W2.heap.size->w'.cell? ⟨b,o,none⟩=W2.cell? ⟨b,o,none⟩) (first|with_reducible exact HK5.out|with_reducible exact SK0.out|with_reducible exact zbW SK0.out|with_reducible exact SK1.out|with_reducible exact zbW HK5.out|with_reducible exact zdW HK5.out)
    ((go_at_call 167;refine(hQ _).mono ?_;rintro e w5 ⟨so',c',rfl,hs',hb5⟩;first|(have hbb:Below W2.heap.size W2 w5:=(by with_reducible exact ze HDR.out hb5);have HK5:=zzH (zbl hbb))|(have hbb:Below W2.heap.size W2 w5:=(by with_reducible exact ze HDA.out hb5);have xl:w5.heap[W2.heap.size]?=some (.cells zo 47 (0,0)):=(hb5.block W2.heap.size (zc HAN.out)).trans HAN.out;have XL:=zzH xl;obtain⟨l0,l1,l2,l3,l4,l5,l6,l7,l8,lz⟩:=zf xl;clear xl;have HK5:=zzH (zbl hbb))))|fail
   ·exact zz30
   ·exact zz29
  ·have hQ: ∀wx,Below W2.heap.size W2 wx->Calls Tryz.prog 168 #[.agg #[.int .i64 9,.int .i64 t.int,.int .i64 t.gen,.string t.name,.string t.func,.int .i64 t.arity,.slice so t.items.length c,.string t.bytes,.int .i64 t.bits]] wx (zcQ w0 wx f t):=fun wx hbx=>by have h:=zrj t so c f w0 wx HT.out ((HB.out.trans (HB2.out.mono HWB.out)).trans (hbx.mono (zzY HB.out.size HB2.out.size))) HOK.out.2.2.2.2.2.2.1 HKT.out;rwa [HKT.out]at h
   have n0:W2.cell? ⟨M,9,none⟩=some (.func (.func 168) #[] #[]):=zzq2 _ _ 9 _ _ _ HM2.out
   first|go_region_held3 (fun w'=>W2.heap.size<=w'.heap.size/\ ∀b o,b<W2.heap.size->w'.cell? ⟨b,o,none⟩=W2.cell? ⟨b,o,none⟩) (first|with_reducible exact HK5.out|with_reducible exact SK0.out|with_reducible exact zbW SK0.out|with_reducible exact SK1.out|with_reducible exact zbW HK5.out|with_reducible exact zdW HK5.out)
    ((go_at_call 168;(first|(refine(hQ _ ?_).mono ?_;with_reducible exact HDR.out)|(refine(hQ _ ?_).mono ?_;with_reducible exact HDA.out));rintro e w5 ⟨so',c',rfl,hs',hb5⟩;first|(have hbb:Below W2.heap.size W2 w5:=(by with_reducible exact ze HDR.out hb5);have HK5:=zzH (zbl hbb))|(have hbb:Below W2.heap.size W2 w5:=(by with_reducible exact ze HDA.out hb5);have xl:w5.heap[W2.heap.size]?=some (.cells zo 47 (0,0)):=(hb5.block W2.heap.size (zc HAN.out)).trans HAN.out;have XL:=zzH xl;obtain⟨l0,l1,l2,l3,l4,l5,l6,l7,l8,lz⟩:=zf xl;clear xl;have HK5:=zzH (zbl hbb))))|fail
   ·exact zz30
   ·exact zz29
  ·have hQ: ∀wx,Calls Tryz.prog 169 #[.agg #[.int .i64 10,.int .i64 t.int,.int .i64 t.gen,.string t.name,.string t.func,.int .i64 t.arity,.slice so t.items.length c,.string t.bytes,.int .i64 t.bits]] wx (zcQ w0 wx f t):=fun wx=>by have h:=zoZ t so c f w0 wx HT.out HOK.out.2.2.2.2.2.2.2.1 HOK.out.2.2.2.2.2.2.2.2 HKT.out;rwa [HKT.out]at h
   have n0:W2.cell? ⟨M,10,none⟩=some (.func (.func 169) #[] #[]):=zzq2 _ _ 10 _ _ _ HM2.out
   first|go_region_held3 (fun w'=>W2.heap.size<=w'.heap.size/\ ∀b o,b<W2.heap.size->w'.cell? ⟨b,o,none⟩=W2.cell? ⟨b,o,none⟩) (first|with_reducible exact HK5.out|with_reducible exact SK0.out|with_reducible exact zbW SK0.out|with_reducible exact SK1.out|with_reducible exact zbW HK5.out|with_reducible exact zdW HK5.out)
    ((go_at_call 169;refine(hQ _).mono ?_;rintro e w5 ⟨so',c',rfl,hs',hb5⟩;first|(have hbb:Below W2.heap.size W2 w5:=(by with_reducible exact ze HDR.out hb5);have HK5:=zzH (zbl hbb))|(have hbb:Below W2.heap.size W2 w5:=(by with_reducible exact ze HDA.out hb5);have xl:w5.heap[W2.heap.size]?=some (.cells zo 47 (0,0)):=(hb5.block W2.heap.size (zc HAN.out)).trans HAN.out;have XL:=zzH xl;obtain⟨l0,l1,l2,l3,l4,l5,l6,l7,l8,lz⟩:=zf xl;clear xl;have HK5:=zzH (zbl hbb))))|fail
   ·exact zz30
   ·exact zz29
 case rest=>
  obtain⟨L,so',c',rfl,rfl,hL,hsl,hLr,hBx⟩:=hcut;rename World=>wc
  have HSL:=zzH hsl;clear hsl;obtain⟨x0,x1,x2,x3,x4,x5,x6,x7,x8,xz⟩:=zf hLr;have HLR:=zzH hLr;have HBX:=zzH hBx;have HL:=zzH hL;clear hLr hBx hL q0 q1 q2 q3 q4 q5 q6 q7 q8 b0 hl0 hl1;have HMl2:=zzH hMl2;clear hMl2;have hq:okK t=false∨okK t=true:=by cases okK t<;>simp
  rcases hq with hq|hq
  ·have E:Hid (zj (f+1) t=false):=zzH (by unfold zj zcH;rw [hq];rfl)
   rw [hq];clear hq;go_wp2_with fail;go_ret;exact⟨zr E.out.symm,zbf (HBW2.out.trans ((HBX.out.mono (HBW2.out.size)).setCell (p:=⟨L,0,none⟩) (zzY HBW2.out.size HL.out) _)) _,s,Int.le_refl _,by omega,(zzq7 _ _ _ _ (Nat.ne_of_lt (zzW HMl2.out HL.out))).trans (HM2.out.below HBX.out),fun h=>absurd (E.out.symm.trans h) (by decide)⟩
  ·have HQ:=zzH hq
   rw [hq];clear hq;go_upto_region 5 with fail;have r6:(wc.setCell ⟨L,0,none⟩ (.int .i64 0)).heap[L]?=some (.cells #[.int .i64 0,.int .i64 (zd t).int,.int .i64 (zd t).gen,.string (zd t).name,.string (zd t).func,.int .i64 (zd t).arity,.slice so' (zd t).items.length c',.string (zd t).bytes,.int .i64 (zd t).bits] 47 (0,0)):=zzS _ _ 0 _ _ (.int .i64 0) HLR.out
   have hB6:Below w.heap.size w (wc.setCell ⟨L,0,none⟩ (.int .i64 0)):=HBW2.out.trans ((HBX.out.mono (HBW2.out.size)).setCell (p:=⟨L,0,none⟩) (zzY HBW2.out.size HL.out) _);have hB62:Below W2.heap.size W2 (wc.setCell ⟨L,0,none⟩ (.int .i64 0)):=HBX.out.setCell (p:=⟨L,0,none⟩) HL.out _;have HM6:Hid (MeasAt M s (wc.setCell ⟨L,0,none⟩ (.int .i64 0))):=zzH (HM2.out.below hB62);have HR0:=zzH ((hB62.block B (zc R0.out)).trans R0.out);have HR1:=zzH ((hB62.block (B+1) (zc R1.out)).trans R1.out);have HB6:=zzH hB6;clear hB6 hB62 x0 x1 x2 x3 x4 x5 x6 x7 x8 xz;generalize wc.setCell ⟨L,0,none⟩ (.int .i64 0)=w6 at *;have HB06:Hid (Below w0.heap.size w0 w6):=zzH (HB.out.trans (HB6.out.mono HB.out.size));have hSM:Calls Tryz.prog 170 #[.agg #[.int .i64 0,.int .i64 (zd t).int,.int .i64 (zd t).gen,.string (zd t).name,.string (zd t).func,.int .i64 (zd t).arity,.slice so' (zd t).items.length c',.string (zd t).bytes,.int .i64 (zd t).bits],.agg #[.int .i64 0,.int .i64 0,.int .i64 0,.string ⟨#[]⟩,.string ⟨#[]⟩,.int .i64 0,.slice none 0 0,.string ⟨#[]⟩,.int .i64 0]] w6 fun e w'=>e= .returned (.bool (zcs (f+1) (zf6 t) zeP))/\Below w6.heap.size w6 w':=zpt f (zf6 t) zeP so' none c' 0 w6 (HSL.out.tms HB06.out) (SlAt.nil _ _ _ _) (zzY (zcD t) HOK.out.2.2.2.2.2.2.1) (zzZ _)
   have HLO:Hid ((true&&zcs (f+1) (zf6 t) zeP)=zcH t):=zzH (by rw [<-HQ.out];exact znp f t);obtain⟨x0,x1,x2,x3,x4,x5,x6,x7,x8,xz⟩:=zf r6;clear r6 xz;generalize zcs (f+1) (zf6 t) zeP=q at *
   cases q with
   |false=>
    have E:Hid (zj (f+1) t=false):=zzH (by unfold zj;rw [<-HLO.out];rfl);go_wp2_with fail;refine hSM.mono ?_;rintro e w7 ⟨rfl,hb7⟩;go_wp2_with fail;go_ret;exact⟨zr E.out.symm,zbf (ze HB6.out hb7) _,s,Int.le_refl _,by omega,HM6.out.below hb7,fun h=>absurd (E.out.symm.trans h) (by decide)⟩
   |true=>
    have HLB:Hid (zcH t=true):=zzH HLO.out.symm;go_wp2_with fail;refine hSM.mono ?_;rintro e w7 ⟨rfl,hb7⟩;have hR0:=(hb7.block B (zc HR0.out)).trans HR0.out;have hR1:=(hb7.block (B+1) (zc HR1.out)).trans HR1.out;have HM7:=zzH (HM6.out.below hb7);have HB7:=zzH (ze HB6.out hb7);clear hb7 hSM x0 x1 x2 x3 x4 x5 x6 x7 x8;obtain⟨y0,y1,y2,y3,y4,y5,y6,y7,y8,yz⟩:=zf hR1;have b0:w7.cell? ⟨B,0,none⟩=some (.pointer (some ⟨M,0,none⟩)):=by rw [zzq2 _ _ _ _ _ _ hR0];rfl
    obtain⟨m11,mz⟩:=HM7.out.cell;have HR07:=zzH hR0;have HR17:=zzH hR1;clear hR0 hR1 yz;by_cases k9:tk=9
    ·subst k9
     have hl2:=zm6 HLB.out HKT.out;have hcap:(zR (f+1) t:Int)=300+(t.items.length:Int)+(zcw (t.items.map (zR f)):Int):=by unfold zR;omega
     have hwr1:IntKind.i64.wrap ((t.items.length:Int)-1)=(t.items.length:Int)-1:=by rw [zzq3];omega
     have hwr2:IntKind.i64.wrap (s+((t.items.length:Int)-1))=s+((t.items.length:Int)-1):=by rw [zzq3];omega
     go_upto_region 10 with fail;go_region;go_upto_region 13 with fail;have HM8:Hid (MeasAt M (s+((t.items.length:Int)-1)) (w7.setCell ⟨M,11,none⟩ (.int .i64 (s+((t.items.length:Int)-1)))).drew):=zzH (zhA HM7.out);have HG8:Hid (w.grownBy (w7.setCell ⟨M,11,none⟩ (.int .i64 (s+((t.items.length:Int)-1)))).drew (some M)):=zzH (zfH (zh (zbf HB7.out _) (zG _ _ _ _)));have hR0:(w7.setCell ⟨M,11,none⟩ (.int .i64 (s+((t.items.length:Int)-1)))).drew.heap[B]?=some (.cells #[.pointer (some ⟨M,0,none⟩)] 189 (0,0)):=(zzq7 _ _ _ _ (Nat.ne_of_gt HML.out)).trans HR07.out
     have hR1:(w7.setCell ⟨M,11,none⟩ (.int .i64 (s+((t.items.length:Int)-1)))).drew.heap[B+1]?=some (.cells #[.int .i64 9,.int .i64 t.int,.int .i64 t.gen,.string t.name,.string t.func,.int .i64 t.arity,.slice so t.items.length c,.string t.bytes,.int .i64 t.bits] 47 (0,0)):=(zzq7 _ _ _ _ (Nat.ne_of_gt (Nat.lt_succ_of_lt HML.out))).trans HR17.out
     have HB08:Hid (Below w0.heap.size w0 (w7.setCell ⟨M,11,none⟩ (.int .i64 (s+((t.items.length:Int)-1)))).drew):=zzH (zdV HB.out HG8.out hM);clear y0 y1 y2 y3 y4 y5 y6 y7 y8 b0 m11 mz;generalize(w7.setCell ⟨M,11,none⟩ (.int .i64 (s+((t.items.length:Int)-1)))).drew=w8 at *;obtain⟨y0,y1,y2,y3,y4,y5,y6,y7,y8,yz⟩:=zf hR1;have hCF:=HC.out t.items so c M B (s+((t.items.length:Int)-1)) w0 w8 HT.out HOK.out.2.2.2.2.2.2.1 HB08.out hM HM8.out hR0 (Nat.ne_of_gt HML.out) (by omega) (by omega);have EF:Hid (zj (f+1) t=t.items.all (zj f)):=zzH (by unfold zj;rw [HLB.out];rfl);have EW:Hid (zx (f+1) t=((t.items.length:Int)-1)+zbP (t.items.map (zx f))):=zzH (by unfold zx zbc;rw [HKT.out];rfl);exact zz28
    ·by_cases k10:tk=10
     ·subst k10
      obtain⟨hl2,hl3⟩:=zlL HLB.out HKT.out;have hcap:(zR (f+1) t:Int)=300+(t.items.length:Int)+(zcw (t.items.map (zR f)):Int):=by unfold zR;omega
      have hwr0:IntKind.i64.wrap (t.bits+63)=t.bits+63:=by rw [zzq3];omega
      have hwd:(t.bits+63).tdiv 64=(t.bits+63)/64:=by rw [Int.tdiv_eq_ediv_of_nonneg (by omega)]
      have hwr1:IntKind.i64.wrap (1+(t.bits+63)/64)=1+(t.bits+63)/64:=by rw [zzq3];omega
      have hwr2:IntKind.i64.wrap (s+(1+(t.bits+63)/64))=s+(1+(t.bits+63)/64):=by rw [zzq3];omega
      go_upto_region 12 with fail;go_region;go_upto_region 13 with fail;have HM8:Hid (MeasAt M (s+(1+(t.bits+63)/64)) (w7.setCell ⟨M,11,none⟩ (.int .i64 (s+(1+(t.bits+63)/64)))).drew):=zzH (zhA HM7.out);have HG8:Hid (w.grownBy (w7.setCell ⟨M,11,none⟩ (.int .i64 (s+(1+(t.bits+63)/64)))).drew (some M)):=zzH (zfH (zh (zbf HB7.out _) (zG _ _ _ _)));have hR0:(w7.setCell ⟨M,11,none⟩ (.int .i64 (s+(1+(t.bits+63)/64)))).drew.heap[B]?=some (.cells #[.pointer (some ⟨M,0,none⟩)] 189 (0,0)):=(zzq7 _ _ _ _ (Nat.ne_of_gt HML.out)).trans HR07.out
      have hR1:(w7.setCell ⟨M,11,none⟩ (.int .i64 (s+(1+(t.bits+63)/64)))).drew.heap[B+1]?=some (.cells #[.int .i64 10,.int .i64 t.int,.int .i64 t.gen,.string t.name,.string t.func,.int .i64 t.arity,.slice so t.items.length c,.string t.bytes,.int .i64 t.bits] 47 (0,0)):=(zzq7 _ _ _ _ (Nat.ne_of_gt (Nat.lt_succ_of_lt HML.out))).trans HR17.out
      have HB08:Hid (Below w0.heap.size w0 (w7.setCell ⟨M,11,none⟩ (.int .i64 (s+(1+(t.bits+63)/64)))).drew):=zzH (zdV HB.out HG8.out hM);clear y0 y1 y2 y3 y4 y5 y6 y7 y8 b0 m11 mz;generalize(w7.setCell ⟨M,11,none⟩ (.int .i64 (s+(1+(t.bits+63)/64)))).drew=w8 at *;obtain⟨y0,y1,y2,y3,y4,y5,y6,y7,y8,yz⟩:=zf hR1;have hCF:=HC.out t.items so c M B (s+(1+(t.bits+63)/64)) w0 w8 HT.out HOK.out.2.2.2.2.2.2.1 HB08.out hM HM8.out hR0 (Nat.ne_of_gt HML.out) (by omega) (by omega);have EF:Hid (zj (f+1) t=t.items.all (zj f)):=zzH (by unfold zj;rw [HLB.out];rfl);have EW:Hid (zx (f+1) t=(1+(t.bits+63)/64)+zbP (t.items.map (zx f))):=zzH (by unfold zx zbc;rw [HKT.out];rfl);exact zz28
     ·have hcap:(zR (f+1) t:Int)=300+(t.items.length:Int)+(zcw (t.items.map (zR f)):Int):=by unfold zR;omega
      have t9:(tk==9)=false:=zzB.2 k9;have t10:(tk==10)=false:=zzB.2 k10;have K9:=zzH k9;have K10:=zzH k10;clear k9 k10;go_upto_region 13 with fail;have HM8:Hid (MeasAt M (s+1) (w7.setCell ⟨M,11,none⟩ (.int .i64 (s+1)))):=zzH (zhA HM7.out);have HG8:Hid (w.grownBy (w7.setCell ⟨M,11,none⟩ (.int .i64 (s+1))) (some M)):=zzH ((zh (zbf HB7.out _) (zG _ _ _ _)));have hR0:(w7.setCell ⟨M,11,none⟩ (.int .i64 (s+1))).heap[B]?=some (.cells #[.pointer (some ⟨M,0,none⟩)] 189 (0,0)):=(zzq7 _ _ _ _ (Nat.ne_of_gt HML.out)).trans HR07.out
      have hR1:(w7.setCell ⟨M,11,none⟩ (.int .i64 (s+1))).heap[B+1]?=some (.cells #[.int .i64 tk,.int .i64 t.int,.int .i64 t.gen,.string t.name,.string t.func,.int .i64 t.arity,.slice so t.items.length c,.string t.bytes,.int .i64 t.bits] 47 (0,0)):=(zzq7 _ _ _ _ (Nat.ne_of_gt (Nat.lt_succ_of_lt HML.out))).trans HR17.out
      have HB08:Hid (Below w0.heap.size w0 (w7.setCell ⟨M,11,none⟩ (.int .i64 (s+1)))):=zzH (zdV HB.out HG8.out hM);clear y0 y1 y2 y3 y4 y5 y6 y7 y8 b0 m11 mz;generalize(w7.setCell ⟨M,11,none⟩ (.int .i64 (s+1)))=w8 at *;obtain⟨y0,y1,y2,y3,y4,y5,y6,y7,y8,yz⟩:=zf hR1;have hCF:=HC.out t.items so c M B (s+1) w0 w8 HT.out HOK.out.2.2.2.2.2.2.1 HB08.out hM HM8.out hR0 (Nat.ne_of_gt HML.out) (by omega) (by omega);have EF:Hid (zj (f+1) t=t.items.all (zj f)):=zzH (by unfold zj;rw [HLB.out];rfl);have EW:Hid (zx (f+1) t=1+zbP (t.items.map (zx f))):=zzH (by unfold zx zbc;rw [HKT.out];rw [if_neg K9.out,if_neg K10.out]);exact zz28
theorem zoE {f:Nat} (HC:Hid (CfP f)):OfP f:=fun t so c M s w0 w ht hok hb hM hm hs0 hs1=>by
 by_cases hk:0<=t.kind/\t.kind<11
 ·exact zsC HC t so c M s w0 w ht hok hb hM hm hs0 hs1 hk.1 hk.2
 ·exact zsf t so c M s w0 w hm hk
theorem znF {M:Nat} {s:Int} {c1:Nat} {o1:Bool} {a1:Int} {w w1 w2:World} (h:Below w.heap.size w w1) (h1:zft M s c1 o1 a1 w1 w2):zft M s c1 o1 a1 w w2:=⟨zh (zbf h _) h1.1,h1.2⟩
theorem zqX {f:Nat} (HO:Hid (OfP f)) (t:Tm) (so:Option Addr) (c M mb:Nat) (s:Int) (w0 w:World) (ht:SlAt w0 9 (TmAt w0 f) so t.items) (hok:t.Ok) (hb:Below w0.heap.size w0 w) (hM:w0.heap.size<=M) (hm:MeasAt M s w) (hmb:w.heap[mb]?=some (.cells #[.pointer (some ⟨M,0,none⟩)] 189 (0,0))) (hs0:0<=s) (hs1:s+zR (f+1) t<=1152921504606846976):
  Calls Tryz.prog 172 #[.agg (zzt t so c),.pointer (some ⟨mb,0,none⟩)] w fun e w'=>e= .returned (.bool (!(zj (f+1) t)))/\zft M s (zR (f+1) t) (zj (f+1) t) (zx (f+1) t) w w':=by
 unfold zzt;have hB:Below w.heap.size w (w.alloc (.cells (zzt t so c) 47)):=(zzR _ _).alloc (zzL _) _;have hO:=HO.out t so c M s w0 (w.alloc (.cells (zzt t so c) 47)) ht hok (hb.trans (hB.mono hb.size)) hM (hm.below hB) hs0 hs1;have c0:w.cell? ⟨mb,0,none⟩=some (.pointer (some ⟨M,0,none⟩)):=by rw [zzq2 _ _ _ _ _ _ hmb];rfl
 have hl:=zc hmb;have HBB:=zzH hB;clear hmb hB hm hb ht hok hs0 hs1;generalize zj (f+1) t=r at *
 cases r
 all_goals
  go_in;go_wp2_with fail;refine hO.mono ?_;rintro e w5 ⟨rfl,hq⟩;have HQ:=zzH hq;clear hq;go_wp2_with fail;go_ret;exact⟨rfl,znF HBB.out HQ.out⟩
theorem ziY {f:Nat} {l:List Tm} {k:Nat} (h:k<l.length):zcw ((l.drop k).map (zR f))=zR f l[k]+zcw ((l.drop (k+1)).map (zR f)):=by
 rw [List.drop_eq_getElem_cons h,List.map_cons,zcw]
theorem zg5 {f:Nat} {l:List Tm} {k:Nat} (h:k<l.length):zbP ((l.drop k).map (zx f))=zx f l[k]+zbP ((l.drop (k+1)).map (zx f)):=by
 rw [List.drop_eq_getElem_cons h,List.map_cons,zbP]
theorem zgq {p:Tm->Bool} {l:List Tm} {k:Nat} (h:k<l.length):(l.drop k).all p=(p l[k]&&(l.drop (k+1)).all p):=by
 rw [List.drop_eq_getElem_cons h,List.all_cons]
def zp2 (M:Nat) (s:Int) (cap:Nat) (ok:Bool) (add:Int) (w:World) (e:Ending) (w':World):Prop:=(∃i:Int,e= .returned (.int .i64 i)/\decide (0<=i)= !ok)/\zft M s cap ok add w w'
def GoQ (M:Nat) (s:Int) (f:Nat) (l:List Tm) (k:Nat) (w wr:World):Prop:=w.grownBy wr (some M)/\ ∃s',s<=s'/\s'+zcw ((l.drop k).map (zR f))<=s+zcw (l.map (zR f))/\MeasAt M s' wr/\l.all (zj f)=(l.drop k).all (zj f)/\s'+zbP ((l.drop k).map (zx f))=s+zbP (l.map (zx f))
theorem zqi {f:Nat} (HO:Hid (OfP f)) (l:List Tm) (ao:Option Addr) (c M mb:Nat) (s:Int) (w0 w:World) (ht:SlAt w0 9 (TmAt w0 (f+1)) ao l) (hl:l.length<=maxLen) (hb:Below w0.heap.size w0 w) (hM:w0.heap.size<=M) (hm:MeasAt M s w) (hmb:w.heap[mb]?=some (.cells #[.pointer (some ⟨M,0,none⟩)] 189 (0,0))) (hne:mb≠M) (hs0:0<=s) (hs1:s+zcw (l.map (zR (f+1)))<=1152921504606846976):
  Calls Tryz.prog 186 #[.slice ao l.length c,.func (.func 172) #[] #[.pointer (some ⟨mb,0,none⟩)]] w (zp2 M s (zcw (l.map (zR (f+1)))) (l.all (zj (f+1))) (zbP (l.map (zx (f+1)))) w):=by
 unfold maxLen at hl;have HT:=zzH ht;have HB:=zzH hb;have HMB:=zzH hmb;have HG:Hid (GoQ M s (f+1) l 0 w w):=zzH ⟨zb5 _ _,s,Int.le_refl _,by rw [List.drop_zero];omega,hm,rfl,by rw [List.drop_zero]⟩;have HML:=zzH (zc hmb);clear ht hb hmb hm;go_in;go_wp2_with fail;go_loopw [5,8] (fun _ i wr=> ∃k:Nat,k<=l.length/\i= .int .i64 k/\Hid (GoQ M s (f+1) l k w wr)) (fun _ i _=>l.length-(intOf i).toNat)
 case atStart=>exact⟨0,zzZ _,rfl,HG⟩
 case round=>
  obtain⟨k,hk,rfl,HK⟩:=hrel;rename World=>wr
  obtain⟨g1,s',z1,z2,z3,z4,z5⟩:=HK.out;have hB0r:Below w0.heap.size w0 wr:=zdV HB.out g1 hM;have hmbr:=(g1.block mb HML.out (fun e=>hne (Option.some.inj e))).trans HMB.out;by_cases hlt:k<l.length
  ·have hsa:=HT.out.tms hB0r
   obtain⟨b1,off1,ai,ci,hao,hb1,q0,q1,q2,q3,q4,q5,q6,q7,q8,hit,hok⟩:=hsa.tm hlt;obtain⟨b1',off1',ai',ci',hao',hb1',q0',q1',q2',q3',q4',q5',q6',q7',q8',hit',hok'⟩:=HT.out.tm hlt;subst hao;obtain⟨rfl,rfl⟩:b1=b1'/\off1=off1':=by injection hao' with h;injection h with h1 h2;exact⟨h1,h2⟩
   have hai:ai=ai':=by
    exact zz31
   subst hai;rw [ziY hlt]at z2;rw [zgq hlt]at z4;rw [zg5 hlt]at z5;have hO:=zqX HO l[k] ai ci M mb s' w0 wr hit' hok hB0r hM z3 hmbr (by omega) (by omega);have Z2:=zzH z2;have Z4:=zzH z4;have Z5:=zzH z5;clear hao' q0' q1' q2' q3' q4' q5' q6' q7' q8' hit' hok' hit hok hsa z2 z4 z5;generalize l[k]=x at *
   cases hr:zj (f+1) x with
   |true=>
    rw [hr]at hO;have Z4':Hid (l.all (zj (f+1))=(l.drop (k+1)).all (zj (f+1))):=zzH (by rw [Z4.out,hr,Bool.true_and]);clear hr;go_wp2_with fail;refine hO.mono ?_;rintro e w5 ⟨rfl,g5,s5,y1,y2,y3,y4⟩;have HG5:Hid (GoQ M s (f+1) l (k+1) w w5):=zzH ⟨zh g1 g5,s5,by omega,by have:=Z2.out;omega,y3,Z4'.out,by have:=Z5.out;have:=y4 rfl;omega⟩;exact zz32
   |false=>
    rw [hr]at hO;have Z4':Hid (l.all (zj (f+1))=false):=zzH (by rw [Z4.out,hr,Bool.false_and]);clear hr;go_wp2_with fail;refine hO.mono ?_;rintro e w5 ⟨rfl,g5,s5,y1,y2,y3,y4⟩;have HF:Hid (zft M s (zcw (l.map (zR (f+1)))) (l.all (zj (f+1))) (zbP (l.map (zx (f+1)))) w w5):=zzH ⟨zh g1 g5,s5,by omega,by have:=Z2.out;omega,y3,fun h=>absurd (Z4'.out.symm.trans h) (by decide)⟩;have HE:Hid (decide (0<=(k:Int))= !(l.all (zj (f+1)))):=zzH (by rw [Z4'.out,decide_eq_true (by omega)];rfl);go_wp2_with fail;go_ret;exact⟨⟨_,rfl,HE.out⟩,HF.out⟩
  ·have hke:l.drop k= []:=zzq6 (by omega)
   rw [hke]at z2 z4 z5;have HF:Hid (zft M s (zcw (l.map (zR (f+1)))) (l.all (zj (f+1))) (zbP (l.map (zx (f+1)))) w wr):=zzH ⟨g1,s',z1,by simp only [List.map_nil,zcw]at z2;omega,z3,fun _=>by simp only [List.map_nil,zbP]at z5;omega⟩;have HE:Hid (decide (0<=(-1:Int))= !(l.all (zj (f+1)))):=zzH (by rw [z4];rfl);clear z2 z4 z5 hke;go_wp2_with fail;go_ret;exact⟨⟨_,rfl,HE.out⟩,HF.out⟩
theorem zqq (ao:Option Addr) (c M mb:Nat) (s:Int) (w:World) (hm:MeasAt M s w):
  Calls Tryz.prog 186 #[.slice ao 0 c,.func (.func 172) #[] #[.pointer (some ⟨mb,0,none⟩)]] w (zp2 M s 0 true 0 w):=by
 have HF:Hid (zft M s 0 true 0 w w):=zzH ⟨zb5 _ _,s,Int.le_refl _,by omega,hm,fun _=>by omega⟩;clear hm;go_in;go_wp2_with fail;go_loop [8] (fun i=>i= .int .i64 0) (fun _=>0)
 case atStart=>rfl
 case round=>
  obtain rfl:=hrel;go_wp2_with fail;go_ret;exact⟨⟨_,rfl,rfl⟩,HF.out⟩
theorem zqC (l:List Tm) (ao:Option Addr) (c M mb:Nat) (s:Int) (cap:Nat) (ok:Bool) (add:Int) (w:World)
  (h:Calls Tryz.prog 186 #[.slice ao l.length c,.func (.func 172) #[] #[.pointer (some ⟨mb,0,none⟩)]] w (zp2 M s cap ok add w)):
  Calls Tryz.prog 171 #[.slice ao l.length c,.func (.func 172) #[] #[.pointer (some ⟨mb,0,none⟩)]] w fun e w'=>e= .returned (.bool (!ok))/\zft M s cap ok add w w':=by
 go_in;go_wp2_with fail;refine h.mono ?_;rintro e w5 ⟨⟨i,rfl,hi⟩,hq⟩;have HI:=zzH hi;have HQ:=zzH hq;clear hi hq;go_wp2_with fail;go_ret;exact⟨zr HI.out,HQ.out⟩
theorem zoe: ∀f,CfP f
 |0=>fun l ao c M mb s w0 w ht hl hb hM hm hmb hne hs0 hs1=>by
  obtain rfl:=ht.zero;exact zqC [] ao c M mb s 0 true 0 w (zqq ao c M mb s w hm)
 |f+1=>fun l ao c M mb s w0 w ht hl hb hM hm hmb hne hs0 hs1=>
  zqC l ao c M mb s _ _ _ w (zqi (zzH (zoE (zzH (zoe f)))) l ao c M mb s w0 w ht hl hb hM hm hmb hne hs0 hs1)
theorem zsd (f:Nat):OfP f:=zoE (zzH (zoe f))
theorem znW (w:World):Calls Tryz.prog 136 #[] w fun e w'=>e= .returned (.agg #[.func (.func 161) #[] #[],.func (.func 162) #[] #[],.func (.func 163) #[] #[],.func (.func 159) #[] #[],.func (.func 164) #[] #[],.func (.func 165) #[] #[],.func (.func 159) #[] #[],.func (.func 166) #[] #[],.func (.func 167) #[] #[],.func (.func 168) #[] #[],.func (.func 169) #[] #[]])/\Below w.heap.size w w':=by
 go_in;go_wp2_with fail;exact bodyPost_ret (v:=.agg #[.func (.func 161) #[] #[],.func (.func 162) #[] #[],.func (.func 163) #[] #[],.func (.func 159) #[] #[],.func (.func 164) #[] #[],.func (.func 165) #[] #[],.func (.func 159) #[] #[],.func (.func 166) #[] #[],.func (.func 167) #[] #[],.func (.func 168) #[] #[],.func (.func 169) #[] #[]]) (by simp [results,Tryz.results136,go_sem]) rfl ⟨rfl,(zzR _ _).alloc (zzL _) _⟩
def zmW (w:World) (ok:Bool) (n:Int) (e:Ending) (w':World):Prop:=e= .returned (.tuple #[.int .i64 (if ok=true then n else 0),.bool ok])/\Below w.heap.size w w'
theorem zrY {w w':World} {ok:Bool} {n:Int} (h:ok=false) (hb:Below w.heap.size w w'):zmW w ok n (.returned (.tuple #[.int .i64 0,.bool false])) w':=by subst h;exact⟨rfl,hb⟩
theorem zpw {w w':World} {ok:Bool} {n m:Int} (h:ok=true) (hn:m=n) (hb:Below w.heap.size w w'):zmW w ok n (.returned (.tuple #[.int .i64 m,.bool true])) w':=by subst h;subst hn;exact⟨rfl,hb⟩
theorem zrV (f:Nat) (l:List Tm) (ao:Option Addr) (c:Nat) (w:World) (ht:SlAt w 9 (TmAt w (f+1)) ao l) (hl:l.length<=maxLen) (hs1:(zcw (l.map (zR (f+1))):Int)<=1152921504606846976):
  Calls Tryz.prog 110 #[.slice ao l.length c] w (zmW w (l.all (zj (f+1))) (zbP (l.map (zx (f+1))))):=by
 unfold maxLen at hl;have HT:=zzH ht;clear ht;go_in;go_wp2_with fail;refine(znW _).mono ?_;rintro e w1 ⟨rfl,hb1⟩;go_wp2_with fail;have hm:=heap_alloc_new w1 (.cells #[.func (.func 161) #[] #[],.func (.func 162) #[] #[],.func (.func 163) #[] #[],.func (.func 159) #[] #[],.func (.func 164) #[] #[],.func (.func 165) #[] #[],.func (.func 159) #[] #[],.func (.func 166) #[] #[],.func (.func 167) #[] #[],.func (.func 168) #[] #[],.func (.func 169) #[] #[],.int .i64 0] 194);have hb2:Below w.heap.size w (w1.alloc (.cells #[.func (.func 161) #[] #[],.func (.func 162) #[] #[],.func (.func 163) #[] #[],.func (.func 159) #[] #[],.func (.func 164) #[] #[],.func (.func 165) #[] #[],.func (.func 159) #[] #[],.func (.func 166) #[] #[],.func (.func 167) #[] #[],.func (.func 168) #[] #[],.func (.func 169) #[] #[],.int .i64 0] 194)):=hb1.alloc hb1.size _;have hM:w.heap.size<=w1.heap.size:=hb1.size;generalize w1.alloc (.cells #[.func (.func 161) #[] #[],.func (.func 162) #[] #[],.func (.func 163) #[] #[],.func (.func 159) #[] #[],.func (.func 164) #[] #[],.func (.func 165) #[] #[],.func (.func 159) #[] #[],.func (.func 166) #[] #[],.func (.func 167) #[] #[],.func (.func 168) #[] #[],.func (.func 169) #[] #[],.int .i64 0] 194)=W at *;generalize w1.heap.size=M at *;have HM:Hid (MeasAt M 0 W):=zzH hm;have HG:Hid (GoQ M 0 (f+1) l 0 W W):=zzH ⟨zb5 _ _,0,Int.le_refl _,by rw [List.drop_zero];omega,hm,rfl,by rw [List.drop_zero]⟩;have HB:=zzH hb2;clear hm hb2 hb1;go_loopw [7,15] (fun _ i wr=> ∃k:Nat,k<=l.length/\i= .int .i64 k/\Hid (GoQ M 0 (f+1) l k W wr)) (fun _ i _=>l.length-(intOf i).toNat)
 case atStart=>exact⟨0,zzZ _,rfl,HG⟩
 case round=>
  obtain⟨k,hk,rfl,HK⟩:=hrel;rename World=>wr
  obtain⟨g1,s',z1,z2,z3,z4,z5⟩:=HK.out;have hB0r:Below w.heap.size w wr:=zdV HB.out g1 hM;by_cases hlt:k<l.length
  ·have hsa:=HT.out.tms hB0r
   obtain⟨b1,off1,ai,ci,hao,hb1,q0,q1,q2,q3,q4,q5,q6,q7,q8,hit,hok⟩:=hsa.tm hlt;obtain⟨b1',off1',ai',ci',hao',hb1',q0',q1',q2',q3',q4',q5',q6',q7',q8',hit',hok'⟩:=HT.out.tm hlt;subst hao;obtain⟨rfl,rfl⟩:b1=b1'/\off1=off1':=by injection hao' with h;injection h with h1 h2;exact⟨h1,h2⟩
   have hai:ai=ai':=by
    exact zz31
   subst hai;rw [ziY hlt]at z2;rw [zgq hlt]at z4;rw [zg5 hlt]at z5;have hbx:Below wr.heap.size wr (wr.alloc (.cells (zzt l[k] ai ci) 47)):=(zzR _ _).alloc (zzL _) _;have HGX:Hid (W.grownBy (wr.alloc (.cells (zzt l[k] ai ci) 47)) (some M)):=zzH (zh g1 (zbf hbx _));have hO:=zsd f l[k] ai ci M s' w (wr.alloc (.cells (zzt l[k] ai ci) 47)) hit' hok' (hB0r.trans (hbx.mono hB0r.size)) hM (z3.below hbx) (by omega) (by omega);have Z2:=zzH z2;have Z4:=zzH z4;have Z5:=zzH z5;clear hao' q0' q1' q2' q3' q4' q5' q6' q7' q8' hit' hok' hit hok hsa z2 z4 z5 hbx;generalize l[k]=x at *
   cases hr:zj (f+1) x with
   |true=>
    rw [hr]at hO;have Z4':Hid (l.all (zj (f+1))=(l.drop (k+1)).all (zj (f+1))):=zzH (by rw [Z4.out,hr,Bool.true_and]);clear hr;go_wp2_with fail;refine hO.mono ?_;rintro e w5 ⟨rfl,g5,s5,y1,y2,y3,y4⟩;have HG5:Hid (GoQ M 0 (f+1) l (k+1) W w5):=zzH ⟨zh HGX.out g5,s5,by omega,by have:=Z2.out;omega,y3,Z4'.out,by have:=Z5.out;have:=y4 rfl;omega⟩;exact zz32
   |false=>
    rw [hr]at hO;have Z4':Hid (l.all (zj (f+1))=false):=zzH (by rw [Z4.out,hr,Bool.false_and]);clear hr;go_wp2_with fail;refine hO.mono ?_;rintro e w5 ⟨rfl,g5,s5,y1,y2,y3,y4⟩;have HF:Hid (Below w.heap.size w w5):=zzH (zdV HB.out (zh HGX.out g5) hM);go_wp2_with fail;go_ret2;exact zrY Z4'.out HF.out
  ·have hke:l.drop k= []:=zzq6 (by omega)
   rw [hke]at z4 z5;have E1:Hid (l.all (zj (f+1))=true):=zzH z4;have E2:Hid (s'=zbP (l.map (zx (f+1)))):=zzH (by simp only [List.map_nil,zbP]at z5;omega);obtain⟨m11,mz⟩:=z3.cell;clear z2 z4 z5 hke z3;go_wp2_with fail;go_ret2;exact zpw E1.out E2.out hB0r
def zec (f:Nat) (t:Tm):Int:=if zj f t=true then(if 2000<zx f t then 3 else 0)else 2
theorem zlV (f:Nat) (t:Tm) (so:Option Addr) (c:Nat) (w:World) (ht:SlAt w 9 (TmAt w f) so t.items) (hok:t.Ok) (hs1:(zR (f+1) t:Int)<=1152921504606846976):
  Calls Tryz.prog 82 #[.agg (zzt t so c)] w fun e w'=>e= .returned (.int .i64 (zec (f+1) t))/\Below w.heap.size w w':=by
 unfold zzt;have hB:=zU w (.cells #[.int .i64 t.kind,.int .i64 t.int,.int .i64 t.gen,.string t.name,.string t.func,.int .i64 t.arity,.slice so t.items.length c,.string t.bytes,.int .i64 t.bits] 47) (.cells #[.int .i64 t.kind,.int .i64 t.int,.int .i64 t.gen,.string t.name,.string t.func,.int .i64 t.arity,.slice so t.items.length c,.string t.bytes,.int .i64 t.bits] 47);have hr:=zd0 w (.cells #[.int .i64 t.kind,.int .i64 t.int,.int .i64 t.gen,.string t.name,.string t.func,.int .i64 t.arity,.slice so t.items.length c,.string t.bytes,.int .i64 t.bits] 47) (.cells #[.int .i64 t.kind,.int .i64 t.int,.int .i64 t.gen,.string t.name,.string t.func,.int .i64 t.arity,.slice so t.items.length c,.string t.bytes,.int .i64 t.bits] 47)
 have hS:=zrV f [t] (some ⟨w.heap.size+1,0,none⟩) 1 ((w.alloc (.cells (zzt t so c) 47)).alloc (.cells (zzt t so c) 47)) (.inr ⟨w.heap.size+1,0,rfl,by simp,fun j hj=>by
  obtain rfl:j=0:=by simpa using hj
  refine⟨[.int .i64 t.kind,.int .i64 t.int,.int .i64 t.gen,.string t.name,.string t.func,.int .i64 t.arity,.slice so t.items.length c,.string t.bytes,.int .i64 t.bits],rfl,fun i hi=>?_,⟨so,c,rfl,ht.tms hB⟩,hok⟩;rw [show 0+0*9+i=i by omega,zzq2 _ _ _ _ _ _ hr];simp⟩) (by unfold maxLen;simp) (by simp [zcw];omega)
 have e1: [t].all (zj (f+1))=zj (f+1) t:=by simp
 have e2:zbP ([t].map (zx (f+1)))=zx (f+1) t:=by simp [zbP]
 rw [e1,e2]at hS;unfold zmW at hS;have E:Hid (zec (f+1) t=if zj (f+1) t=true then(if 2000<zx (f+1) t then 3 else 0)else 2):=zzH rfl;have HB:=zzH hB;clear e1 e2 hr hB ht hok hs1;generalize zj (f+1) t=r at *;generalize zx (f+1) t=n at *
 cases r with
 |false=>
  rw [if_neg (by decide)]at E hS;exact zz33
 |true=>
  rw [if_pos rfl]at E hS;by_cases hn:2000<n
  ·rw [if_pos hn]at E
   exact zz33
  ·rw [if_neg hn]at E
   have hn':n<=2000:=by omega
   clear hn;exact zz33
theorem zfB (f:Nat) (t:Tm) (so:Option Addr) (c:Nat) (w:World) (ht:SlAt w 9 (TmAt w f) so t.items) (hok:t.Ok) (hs1:(zR (f+1) t:Int)<=1152921504606846976):
  Calls Tryz.prog 57 #[.agg (zzt t so c)] w fun e w'=>e= .returned (.bool (zD (f+1) t))/\Below w.heap.size w w':=by
 unfold zzt;have hB:Below w.heap.size w (w.alloc (.cells (zzt t so c) 47)):=(zzR _ _).alloc (zzL _) _;have hC:=zlV f t so c (w.alloc (.cells (zzt t so c) 47)) (ht.tms hB) hok hs1
 have E:Hid ((zec (f+1) t==0)=zD (f+1) t):=zzH (by
  unfold zec zD
  cases zj (f+1) t
  ·rfl
  ·rw [if_pos rfl,Bool.true_and]
   by_cases h:2000<zx (f+1) t
   ·rw [if_pos h,decide_eq_false (by omega)];rfl
   ·rw [if_neg h,decide_eq_true (by omega)];rfl)
 have HB:=zzH hB;clear hB ht hok hs1;generalize zec (f+1) t=n at *;go_in;go_wp2_with fail;refine hC.mono ?_;rintro e w5 ⟨rfl,hb5⟩;go_wp2_with fail;go_ret;exact⟨zr E.out,ze HB.out hb5⟩
def dgt (m:Nat):UInt8:=UInt8.ofNat (48+m%10)
def zgM:Nat->Nat->List UInt8
 |0,_=>[]
 |f+1,m=>if m<10 then [dgt m]else zgM f (m/10)++ [dgt m]
def dig (m:Nat):List UInt8:=zgM (m+1) m
theorem zlI: ∀(f g m:Nat),m<f->m<g->zgM f m=zgM g m
 |0,_,_,h,_=>absurd h (Nat.not_lt_zero _)
 |_,0,_,_,h=>absurd h (Nat.not_lt_zero _)
 |f+1,g+1,m,h1,h2=>by
  unfold zgM;by_cases h:m<10
  ·rw [if_pos h,if_pos h]
  ·rw [if_neg h,if_neg h,zlI f g (m/10) (by omega) (by omega)]
theorem zfo {m:Nat} (h:m<10):dig m= [dgt m]:=by unfold dig zgM;rw [if_pos h]
theorem zhe {m:Nat} (h: ¬m<10):dig m=dig (m/10)++ [dgt m]:=by
 unfold dig;rw [show zgM (m+1) m=zgM m (m/10)++ [dgt m]by rw [zgM,if_neg h],zlI m (m/10+1) (m/10) (by omega) (by omega)]
theorem zly: ∀(k m:Nat),m<10^(k+1)->(dig m).length<=k+1
 |0,m,h=>by rw [zfo (by omega)];simp
 |k+1,m,h=>by
  by_cases hs:m<10
  ·rw [zfo hs];simp
  ·have:=zly k (m/10) (by rw [Nat.pow_succ]at h;omega)
   rw [zhe hs];simp;omega
theorem zm5 {m:Nat} (h:m<=18446744073709551616):(dig m).length<=20:=zly 19 m (by omega)
def txt (n:Int):List UInt8:=if n<0 then 45::dig n.natAbs else dig n.natAbs
def zdr (cs:List UInt8):Array Value:=(cs.map fun b=>Value.int .u8 (b.toNat:Int)).toArray
theorem zfx {cs:List UInt8} {j:Nat} (h:j<cs.length):(zdr cs)[j]?=some (.int .u8 (cs[j].toNat:Int)):=by
 simp [zdr,h]
theorem zgN (cs:List UInt8) (j:Nat) (d:UInt8):(zdr cs).setIfInBounds j (.int .u8 (d.toNat:Int))=zdr (cs.set j d):=by
 simp [zdr,List.map_set]
theorem zoD (m:Nat):((dgt m).toNat:Int)=48+(m:Int)%10:=by
 unfold dgt;have h:(UInt8.ofNat (48+m%10)).toNat=(48+m%10)%256:=UInt8.toNat_ofNat';rw [h];omega
theorem zj4 (cs:List UInt8) (k:Nat) (d:UInt8) (h:k<cs.length):(cs.set k d).drop k=d::cs.drop (k+1):=by
 rw [List.drop_eq_getElem_cons (by simpa using h),List.drop_set_of_lt (by omega)];simp
theorem zst (j:Nat):(10:Nat)^(j+1)=10^j*10:=Nat.pow_succ ..
open Go.Shelf
def Tryz.lays106_ren:Go.Shelf.Ren:=⟨fun|106=>147|213=>181|265=>192|n=>n,fun|9=>9|3=>3|n=>n,fun|n=>n⟩
theorem Tryz.lays106:Go.Proofs.Lays.n106 Tryz.prog Tryz.lays106_ren:={
 mixed:=by kernel_rfl
 f106:=Tryz.func147.trans (congrArg some (by kernel_rfl))
 f213:=Tryz.func181.trans (congrArg some (by kernel_rfl))
 f265:=Tryz.func192.trans (congrArg some (by kernel_rfl))
 t3:=Tryz.underlying3
 a3:=Tryz.isAgg3
 z3:=Tryz.sizeOf3
 v3:=Tryz.zeroValue3
 t9:=Tryz.underlying9
 a9:=Tryz.isAgg9
 z9:=Tryz.sizeOf9
 v9:=Tryz.zeroValue9}
open Go.RowKit in
theorem Tryz.strings_Compare (a b:ByteArray) (w:World):
  Calls Tryz.prog 147 #[.string a,.string b] w fun e w'=>e= .returned (.int .i64 (Lib.compareBytes a.data.toList b.data.toList))/\w'=w:=Any.strings_Compare Tryz.lays106 a b w
def Tryz.lays122_ren:Go.Shelf.Ren:=⟨fun|122=>142|215=>178|n=>n,fun|3=>3|4=>4|n=>n,fun|n=>n⟩
theorem Tryz.lays122:Go.Proofs.Lays.n122 Tryz.prog Tryz.lays122_ren:={
 mixed:=by kernel_rfl
 f122:=Tryz.func142.trans (congrArg some (by kernel_rfl))
 f215:=Tryz.func178.trans (congrArg some (by kernel_rfl))
 t3:=Tryz.underlying3
 a3:=Tryz.isAgg3
 z3:=Tryz.sizeOf3
 v3:=Tryz.zeroValue3
 t4:=Tryz.underlying4
 a4:=Tryz.isAgg4
 z4:=Tryz.sizeOf4
 v4:=Tryz.zeroValue4}
open Go.RowKit in
theorem Tryz.cmp_Compare_int (x y:Int) (w:World):
  Calls Tryz.prog 142 #[.int .i64 x,.int .i64 y] w fun e w'=>e= .returned (.int .i64 (Lib.compareInt x y))/\w'=w:=Any.cmp_Compare_int Tryz.lays122 x y w
def Tryz.lays144_ren:Go.Shelf.Ren:=⟨fun|144=>91|143=>121|219=>139|217=>173|225=>174|224=>175|267=>176|266=>187|314=>188|n=>n,fun|9=>9|4=>4|3=>3|5=>5|46=>111|146=>223|51=>176|n=>n,fun|1=>2|n=>n⟩
theorem Tryz.lays144:Go.Proofs.Lays.n144 Tryz.prog Tryz.lays144_ren:={
 mixed:=by kernel_rfl
 f143:=Tryz.func121.trans (congrArg some (by kernel_rfl))
 f144:=Tryz.func91.trans (congrArg some (by kernel_rfl))
 f217:=Tryz.func173.trans (congrArg some (by kernel_rfl))
 f219:=Tryz.func139.trans (congrArg some (by kernel_rfl))
 f224:=Tryz.func175.trans (congrArg some (by kernel_rfl))
 f225:=Tryz.func174.trans (congrArg some (by kernel_rfl))
 f266:=Tryz.func187.trans (congrArg some (by kernel_rfl))
 f267:=Tryz.func176.trans (congrArg some (by kernel_rfl))
 f314:=Tryz.func188.trans (congrArg some (by kernel_rfl))
 t3:=Tryz.underlying3
 a3:=Tryz.isAgg3
 z3:=Tryz.sizeOf3
 v3:=Tryz.zeroValue3
 t4:=Tryz.underlying4
 a4:=Tryz.isAgg4
 z4:=Tryz.sizeOf4
 v4:=Tryz.zeroValue4
 t5:=Tryz.underlying5
 a5:=Tryz.isAgg5
 z5:=Tryz.sizeOf5
 v5:=Tryz.zeroValue5
 t9:=Tryz.underlying9
 a9:=Tryz.isAgg9
 z9:=Tryz.sizeOf9
 v9:=Tryz.zeroValue9
 t46:=Tryz.underlying111
 a46:=Tryz.isAgg111
 z46:=Tryz.sizeOf111
 v46:=Tryz.zeroValue111
 t51:=Tryz.underlying176
 a51:=Tryz.isAgg176
 z51:=Tryz.sizeOf176
 v51:=Tryz.zeroValue176
 t146:=Tryz.underlying223
 a146:=Tryz.isAgg223
 z146:=Tryz.sizeOf223
 v146:=Tryz.zeroValue223
 g1:=by kernel_rfl}
open Go.RowKit Go.Lib in
theorem Tryz.strings_Contains_one (s:ByteArray) (c:UInt8) (w:World):
  Calls Tryz.prog 91 #[.string s,.string ⟨#[c]⟩] w fun e w'=>e= .returned (.bool (decide (0<=Lib.indexByte s.data.toList c)))/\w'=w:=Any.strings_Contains_one Tryz.lays144 s c w
def Tryz.lays157_ren:Go.Shelf.Ren:=⟨fun|157=>123|229=>140|199=>141|261=>177|311=>189|312=>190|n=>n,fun|9=>9|31=>181|3=>3|5=>5|4=>4|119=>197|0=>0|40=>199|152=>211|21=>21|154=>213|51=>176|141=>215|196=>228|193=>225|198=>231|49=>229|194=>226|201=>234|226=>237|46=>111|227=>238|n=>n,fun|0=>1|6=>3|n=>n⟩
theorem Tryz.lays157:Go.Proofs.Lays.n157 Tryz.prog Tryz.lays157_ren:={
 mixed:=by kernel_rfl
 f157:=Tryz.func123.trans (congrArg some (by kernel_rfl))
 f199:=Tryz.func141.trans (congrArg some (by kernel_rfl))
 f229:=Tryz.func140.trans (congrArg some (by kernel_rfl))
 f261:=Tryz.func177.trans (congrArg some (by kernel_rfl))
 f311:=Tryz.func189.trans (congrArg some (by kernel_rfl))
 f312:=Tryz.func190.trans (congrArg some (by kernel_rfl))
 t0:=Tryz.underlying0
 a0:=Tryz.isAgg0
 z0:=Tryz.sizeOf0
 v0:=Tryz.zeroValue0
 t3:=Tryz.underlying3
 a3:=Tryz.isAgg3
 z3:=Tryz.sizeOf3
 v3:=Tryz.zeroValue3
 t4:=Tryz.underlying4
 a4:=Tryz.isAgg4
 z4:=Tryz.sizeOf4
 v4:=Tryz.zeroValue4
 t5:=Tryz.underlying5
 a5:=Tryz.isAgg5
 z5:=Tryz.sizeOf5
 v5:=Tryz.zeroValue5
 t9:=Tryz.underlying9
 a9:=Tryz.isAgg9
 z9:=Tryz.sizeOf9
 v9:=Tryz.zeroValue9
 t21:=Tryz.underlying21
 a21:=Tryz.isAgg21
 z21:=Tryz.sizeOf21
 v21:=Tryz.zeroValue21
 t31:=Tryz.underlying181
 a31:=Tryz.isAgg181
 z31:=Tryz.sizeOf181
 v31:=Tryz.zeroValue181
 t40:=Tryz.underlying199
 a40:=Tryz.isAgg199
 z40:=Tryz.sizeOf199
 v40:=Tryz.zeroValue199
 t46:=Tryz.underlying111
 a46:=Tryz.isAgg111
 z46:=Tryz.sizeOf111
 v46:=Tryz.zeroValue111
 t49:=Tryz.underlying229
 a49:=Tryz.isAgg229
 z49:=Tryz.sizeOf229
 v49:=Tryz.zeroValue229
 t51:=Tryz.underlying176
 a51:=Tryz.isAgg176
 z51:=Tryz.sizeOf176
 v51:=Tryz.zeroValue176
 t119:=Tryz.underlying197
 a119:=Tryz.isAgg197
 z119:=Tryz.sizeOf197
 t141:=Tryz.underlying215
 a141:=Tryz.isAgg215
 z141:=Tryz.sizeOf215
 v141:=Tryz.zeroValue215
 t152:=Tryz.underlying211
 a152:=Tryz.isAgg211
 z152:=Tryz.sizeOf211
 v152:=Tryz.zeroValue211
 t154:=Tryz.underlying213
 a154:=Tryz.isAgg213
 z154:=Tryz.sizeOf213
 v154:=Tryz.zeroValue213
 t193:=Tryz.underlying225
 a193:=Tryz.isAgg225
 z193:=Tryz.sizeOf225
 v193:=Tryz.zeroValue225
 t194:=Tryz.underlying226
 a194:=Tryz.isAgg226
 z194:=Tryz.sizeOf226
 v194:=Tryz.zeroValue226
 t196:=Tryz.underlying228
 a196:=Tryz.isAgg228
 z196:=Tryz.sizeOf228
 v196:=Tryz.zeroValue228
 t198:=Tryz.underlying231
 a198:=Tryz.isAgg231
 z198:=Tryz.sizeOf231
 v198:=Tryz.zeroValue231
 t201:=Tryz.underlying234
 a201:=Tryz.isAgg234
 z201:=Tryz.sizeOf234
 v201:=Tryz.zeroValue234
 t226:=Tryz.underlying237
 a226:=Tryz.isAgg237
 z226:=Tryz.sizeOf237
 v226:=Tryz.zeroValue237
 t227:=Tryz.underlying238
 a227:=Tryz.isAgg238
 z227:=Tryz.sizeOf238
 v227:=Tryz.zeroValue238
 g0:=by kernel_rfl
 g6:=by kernel_rfl}
open Go.RowKit Go.Lib in
theorem Tryz.strings_Fields (s:ByteArray) (w:World) (hs:s.size<4294967281) (hascii: ∀(j:Nat) b,s.data.toList[j]?=some b->b.toNat<128) (htab:Lib.TabIs Tryz.prog w "strings.asciiSpace" .u8 Lib.asciiSpaceTab):
  Calls Tryz.prog 123 #[.string s] w fun e w'=>
   e= .returned (.slice (some ⟨w.heap.size,0,none⟩) (Lib.fields s.data.toList).length (Lib.fields s.data.toList).length)/\w'=w.alloc (.cells ((Lib.fields s.data.toList).map fun l=>Value.string ⟨l.toArray⟩).toArray 9):=Any.strings_Fields Tryz.lays157 (by kernel_rfl) (by kernel_rfl) s w hs hascii htab
section
variable {H:Type} {enc:TypeId × Value->H} {P:Program} {w:World} {base:Nat} {spare:Nat->Bool} {held:Bool}
end
section
variable {H:Type} {enc:TypeId × Value->H} {w:World} {base:Nat} {spare:Nat->Bool} {held:Bool} {fuel:Nat} {cs:List Value} {x:DataW H × List MemPlace}
end
section
variable {H:Type} {enc:TypeId × Value->H} {w:World} {base:Nat} {spare:Nat->Bool} {held:Bool}
end
end Go.Proofs.YtlaabicdhkebbaaGreatDoor
