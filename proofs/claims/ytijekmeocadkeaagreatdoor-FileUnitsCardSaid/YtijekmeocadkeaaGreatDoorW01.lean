import Derived.IntWalk
import Derived.Below
import Derived.Laws.Wrap64
import Derived.WalkKit
import Derived.ChangeArms
import Derived.DataReads
import Derived.Lib.Hide
import Derived.WalkSpells
import Derived.WalkLawsBesides
import Derived.Handy
import Derived.Deep.QuietTactic
import Derived.BigQuiet
import Derived.Laws.ResultCell
import Derived.Laws.Rows
import Derived.Deep.RegionHeld3
import Derived.Deep.Cut
import Derived.Lib.UnsafeStr
import Derived.Shelf.Strings.Builder1
import Derived.Shelf.Strings.Trim
import Derived.Shelf.Small.Utf8
import Derived.Shelf.Small.Strs
import Derived.Shelf.Small.Wraps
import Derived.Shelf.Strings.BuilderF
import Derived.Shelf.Strings.BuilderK
import Derived.Shelf.Strings.Search1
import Derived.Shelf.Strings.Search2
import Derived.Shelf.Strings.Search3
import Derived.Shelf.LaysM
import Derived.Shelf.Strings.Shaped
import Derived.Shelf.GgClosure.StringsIndexFunc
import Derived.Ground.GgwProg
import Derived.Shelf.GgClosure.StringsIndexFuncTop
import Derived.Shelf.GgClosure.StringsRunes
import Derived.Shelf.Strings.Fields
import Derived.Shelf.Strings.SplitShaped
import Derived.Shelf.Unicode.Latin
import Derived.Shelf.Unicode.Decode
import Derived.Shelf.Strings.Runes
import Derived.Shelf.Strings.AsciiSet
import Derived.Shelf.Unicode.DecodeSlow
import Derived.Shelf.Unicode.DecodeAny
import Derived.Shelf.Unicode.Is16White
import Derived.Shelf.Unicode.IsSpaceAny
import Derived.Shelf.Unicode.DecodeLast
import Derived.Shelf.Unicode.Is16WhiteD
import Derived.Shelf.Unicode.Is16Any
import Derived.Shelf.Unicode.Is32Any
import Derived.Shelf.Unicode.ExclAny
import Derived.Shelf.Strings.FuncGrows
import Derived.Shelf.Strings.BuilderCap
import Derived.Ground.Names2Prog
import Derived.Shelf.Slices.SearchI
import Derived.Ground.SlgnProg
import Derived.Shelf.SlicesG.SearchI
import Derived.Laws.RangeAny
import Derived.Shelf.SlicesQ.IndexFunc
import Derived.Lib.SlBy
import Derived.Lib.FrozenHead
import Derived.Lib.OthersKept
import Derived.Deep.DeepCutAuto
import Derived.Deep.CutBlock
import Derived.Deep.AppendLies
import Derived.Laws.RangeString
import Derived.Laws.AppendOwn
import Derived.Deep.Draws
import Derived.RegionTactic
import Derived.BigRegion
import Derived.Laws.EntriesVeiled
import Derived.Maps.OwnOps
import Derived.Maps.OwnSet
import Derived.Maps.Views
import Derived.DeepKeys4
import Derived.WideKeyPair
import Derived.Lib.SmallJoins
import Derived.OwnWalk
import Derived.Maps.AppendAt
import Derived.Lib.OwnKind
import Derived.Lib.AppendStr
import Derived.RegionDies
import Derived.Lib.ConvBytes
import Derived.Laws.Bits64b
import Derived.Defers
import Derived.Recover
import Derived.ChangeAlike
import Derived.Laws.CopyOwn
import Derived.Laws.OwnMore
import Derived.Laws.IdiomStrings
import Derived.Deep.RegionWith
import Derived.Lib.LaidU8
import Derived.Stop.LaidErr
import Derived.Deep.DeepHandedRow
import Derived.Deep.DeepLaidRun
import Derived.Deep.DeepWitnessRowRef
import Derived.ProofKit
import Derived.OpenShut
import Derived.ShutString
import Derived.Test.YtijekmeocadkeaaGreatDoorProg
namespace Go.Proofs.YtijekmeocadkeaaGreatDoor
open Go.RowKit
set_option linter.unusedVariables false
set_option linter.unusedSimpArgs false
set_option maxRecDepth 100000
set_option maxHeartbeats 0
theorem zzK3{p0 p1 p2 G:Prop}(a0:p0)(a1:p1)(a2:p2)(h:Hid p0->Hid p1->Hid p2->G):G:=h a0 a1 a2
theorem zzK4{p0 p1 p2 p3 G:Prop}(a0:p0)(a1:p1)(a2:p2)(a3:p3)(h:Hid p0->Hid p1->Hid p2->Hid p3->G):G:=h a0 a1 a2 a3
theorem zzK5{p0 p1 p2 p3 p4 G:Prop}(a0:p0)(a1:p1)(a2:p2)(a3:p3)(a4:p4)(h:Hid p0->Hid p1->Hid p2->Hid p3->Hid p4->G):G:=h a0 a1 a2 a3 a4
theorem zzK6{p0 p1 p2 p3 p4 p5 G:Prop}(a0:p0)(a1:p1)(a2:p2)(a3:p3)(a4:p4)(a5:p5)(h:Hid p0->Hid p1->Hid p2->Hid p3->Hid p4->Hid p5->G):G:=h a0 a1 a2 a3 a4 a5
theorem zzK7{p0 p1 p2 p3 p4 p5 p6 G:Prop}(a0:p0)(a1:p1)(a2:p2)(a3:p3)(a4:p4)(a5:p5)(a6:p6)(h:Hid p0->Hid p1->Hid p2->Hid p3->Hid p4->Hid p5->Hid p6->G):G:=h a0 a1 a2 a3 a4 a5 a6
theorem zzK9{p0 p1 p2 p3 p4 p5 p6 p7 p8 G:Prop}(a0:p0)(a1:p1)(a2:p2)(a3:p3)(a4:p4)(a5:p5)(a6:p6)(a7:p7)(a8:p8)(h:Hid p0->Hid p1->Hid p2->Hid p3->Hid p4->Hid p5->Hid p6->Hid p7->Hid p8->G):G:=h a0 a1 a2 a3 a4 a5 a6 a7 a8
abbrev zzA:=Option Addr
theorem zzE(w:World)(c:Obj):Below w.heap.size w (w.alloc c):=(Below.refl _ _).alloc (Nat.le_refl _) _
theorem zzV(n:Nat)(h:n<=9223372036854775807):IntKind.i64.wrap ((n:Int)-1)=(n:Int)-1:=by rw [IntKind.wrap_i64];omega
abbrev zzW:=@Nat.lt_of_lt_of_le
abbrev zzC:=@Nat.not_lt_zero
abbrev zzL:=@Nat.le_refl
theorem zzq2:type_of% @cell_of_row:=@cell_of_row
abbrev zzF:=@heap_alloc_new
abbrev zzR:=@Below.refl
abbrev zzH:=@Lib.hid
abbrev zzS:=@heap_setCell_same
theorem zzq17:type_of% @frozen_of_row:=@frozen_of_row
theorem zzq20:type_of% @heap_setCell_same:=@heap_setCell_same
theorem zzq4:type_of% @List.append_assoc.{0}:=@List.append_assoc
theorem zz1{P:Prop}(h:P:=by
 by_cases small:m<10
 ·go_wp2
  go_ret;exact⟨zuG (by rw [HD.out,HDS.out small];rfl),hB.alloc hB.size _⟩
 ·go_wp2
  go_roundw
  case rel=>exact⟨m/10,dgt m::suf,by go_num,rfl,by omega,hB.alloc hB.size _,zzH (by rw [HD.out,HDB.out small,zzq4];rfl)⟩
  case measure=>simp [intOf];omega):P:=h
theorem zzq1:type_of% @List.length_append.{0}:=@List.length_append
theorem zzq18:type_of% @List.length_cons.{0}:=@List.length_cons
theorem zz2{P:Prop}(h:P:=by
 rw [BitVec.ofInt_natCast,BitVec.toNat_ofNat];exact Nat.mod_eq_of_lt (by omega)):P:=h
theorem zz3{P:Prop}(h:P:=by
 go_wp2;go_round
 case rel=>exact⟨k+1,by omega,by go_num,by rw [HST.out,HU.out]⟩
 case measure=>simp [intOf];omega):P:=h
abbrev zzZ:=@Nat.zero_le
theorem zzq3:type_of% @beq_eq_false_iff_ne.{0}:=@beq_eq_false_iff_ne
theorem zzq5:type_of% @IntKind.wrap_i64:=@IntKind.wrap_i64
abbrev zzJ:=@Int.eq_ofNat_of_zero_le
theorem zzq16:type_of% @Int.toNat_natCast:=@Int.toNat_natCast
theorem zz5{P:Prop}(h:P:=by
 have e:true=b:=by rw [<-hb];unfold zbF;simp;omega
 subst e;clear hb;go_in;go_wp2;go_ret
 first|exact⟨rfl,0,rfl⟩|exact⟨zdk (by simp;omega),0,rfl⟩):P:=h
theorem zz4{P:Prop}(h:P:=by
 have e:false=b:=by rw [<-hb];unfold zbF;simp;omega
 subst e;clear hb;go_in;go_wp2;go_ret
 first|exact⟨rfl,0,rfl⟩|exact⟨zdk (by simp;omega),0,rfl⟩):P:=h
abbrev zzp:=@List.all_eq_true
abbrev zzM:=@List.getElem_mem
abbrev zzD:=@decide_eq_false
abbrev zzT:=@decide_eq_true
theorem zzq14:type_of% @ByteArray.toList_eq:=@ByteArray.toList_eq
abbrev zzB:=@beq_eq_false_iff_ne
theorem zz6{P:Prop}(h:P:=by
 go_wp2;go_ret;exact⟨rfl,zzR _ _⟩):P:=h
abbrev zzY:=@Nat.le_trans
abbrev zzf:=@Option.some.inj
theorem zz7{P:Prop}(h:P:=by
 go_wp2;go_round
 case rel=>exact⟨k+1,by omega,by go_num,HG2⟩
 case measure=>simp [intOf];omega):P:=h
theorem zz8{P:Prop}(h:P:=by
 go_wp2;go_ret;exact⟨zdk E.out.symm,rfl⟩):P:=h
theorem zzq6:type_of% @Bool.and_eq_true:=@Bool.and_eq_true
theorem zzq7:type_of% @decide_eq_true_eq:=@decide_eq_true_eq
theorem zz9{P:Prop}(h:P:=by
 go_in;go_wp2_with (go_at_call 45;refine(hnm _ HR.out).mono ?_;rintro e w1 ⟨rfl,hb1⟩);go_ret2;exact⟨zfZ E1.out.symm E2.out.symm,hb1⟩):P:=h
theorem zz10{P:Prop}(h:P:=by
 rw [World.cell?_alloc_at _ _ _ _ rfl,World.cell?_alloc_at _ _ _ _ rfl];exact⟨rfl,rfl⟩):P:=h
theorem zz11{P:Prop}(h:P:=by
 clear hk;go_in;go_upto_region 1 with fail;have hbx:=zcJ w u lo fo go co lc fc gc cc;have hba:Below w.heap.size w (w.alloc (.cells (zzu u lo lc fo fc go gc co cc) 27)):=zzE _ _;generalize w.alloc (.cells (zzu u lo lc fo fc go gc co cc) 27)=Wa at *;have HBA:=zzH hba;have HBX:=zzH hbx;have d0:=hbx.c0;have d1:=hbx.c1;have d2:=hbx.c2;have d3:=hbx.c3;have d4:=hbx.c4;have d5:=hbx.c5;have hbl:=hbx.lt;clear hbx hba;go_wp2_with fail;refine(HP.out _ HBA.out).mono ?_;rintro e w1 ⟨rfl,hb1⟩;have HB1:=zzH (zd HBA.out hb1);have hbw:=HBX.out.below hb1;clear hb1 HP d0 d1 d2 d3 d4 d5 hbl;have d0:=hbw.c0;have d1:=hbw.c1;have d2:=hbw.c2;have d3:=hbw.c3;have d4:=hbw.c4;have d5:=hbw.c5;have hbl:=hbw.lt;clear hbw;go_wp2_with fail;refine(HIN.out _).mono ?_;rintro e w2 ⟨rfl,hb2⟩;have HB2:=zzH (zd HB1.out hb2);clear hb2 HIN d0 d1 d2 d3 d4 d5 hbl;go_wp2_with fail;refine(HPU.out _).mono ?_;rintro e w3 ⟨rfl,hb3⟩;go_wp2;go_ret2;exact⟨zfZ E1.out.symm E2.out.symm,zd HB2.out ((zzE _ _).trans (hb3.mono (by simp)))⟩):P:=h
theorem zz12{P:Prop}(h:P:=by
 have hne : (ce != 0) = true := by rw [bne_iff_ne]; exact hc
 have E1:Hid (zf8 u S ce= []):=zzH (if_neg hc);have E2:Hid (zfL u S ce=ce):=zzH (if_neg hc);clear hk;go_in;go_upto_region 1 with fail;have hbx:=zcJ w u lo fo go co lc fc gc cc;have hba:Below w.heap.size w (w.alloc (.cells (zzu u lo lc fo fc go gc co cc) 27)):=zzE _ _;generalize w.alloc (.cells (zzu u lo lc fo fc go gc co cc) 27)=Wa at *;have HBA:=zzH hba;have HBX:=zzH hbx;have d0:=hbx.c0;have d1:=hbx.c1;have d2:=hbx.c2;have d3:=hbx.c3;have d4:=hbx.c4;have d5:=hbx.c5;have hbl:=hbx.lt;clear hbx hba;go_wp2_with fail;refine(HP.out _ HBA.out).mono ?_;rintro e w1 ⟨rfl,hb1⟩;have HB1:=zzH (zd HBA.out hb1);clear hb1 HP d0 d1 d2 d3 d4 d5 hbl;go_wp2;go_ret2;exact⟨zfZ E1.out.symm E2.out.symm,HB1.out⟩):P:=h
theorem zz13{P:Prop}(h:P:=by
 have hx:a |||b<2^63:=Nat.or_lt_two_pow (by omega) (by omega)
 have h1:(BitVec.ofInt 64 (a:Int)).toNat=a:=by
  rw [BitVec.ofInt_natCast,BitVec.toNat_ofNat];exact Nat.mod_eq_of_lt (by omega)
 have h2:(BitVec.ofInt 64 (b:Int)).toNat=b:=by
  rw [BitVec.ofInt_natCast,BitVec.toNat_ofNat];exact Nat.mod_eq_of_lt (by omega)
 show IntKind.i64.wrap ((BitVec.ofInt 64 (a:Int) |||BitVec.ofInt 64 (b:Int)).toNat:Int)=_;rw [BitVec.toNat_or,h1,h2,zzq5];omega):P:=h
theorem zzq15:type_of% @Bool.true_and:=@Bool.true_and
abbrev zzj:=@bodyPost_ret
theorem zz14{P:Prop}(h:P:=by
 have hC2:=zdX (i:=1) (zdX (i:=0) hC (.string ⟨#[]⟩)) (.string ⟨#[]⟩);refine zzj (zdq rfl _ _ _ C _ _ _ _ rfl hC2 Tryz.underlying46 (by kernel_rfl)) rfl ?_;exact⟨⟨_,_,rfl⟩,zcO (zcO hG (by omega) _) (by omega) _⟩):P:=h
theorem zz15{P:Prop}(h:P:=by
 refine zzj (zdq rfl _ _ _ C _ _ _ _ rfl hC2 Tryz.underlying46 (by kernel_rfl)) rfl ?_;exact⟨⟨_,_,rfl⟩,zcO (zcO hG (by omega) _) (by omega) _⟩):P:=h
theorem zz16{P:Prop}(h:P:=by
 rcases h.2 with⟨rfl,rfl⟩|⟨g,cap,cur,rfl,_⟩
 ·exact⟨_,_,rfl⟩
 ·exact⟨_,_,rfl⟩):P:=h
abbrev zzQ:=@List.eq_nil_of_length_eq_zero
theorem zz19{P:Prop}(h:P:=by
 rw [hsub,run_slice_string_to_if (h:=by kernel_rfl),if_pos ⟨by omega,by rw [hbs];omega⟩,zzq16,zkb]):P:=h
theorem zz18{P:Prop}(h:P:=by
 rw [hsub,run_slice_string_from_if (h:=by kernel_rfl),if_pos ⟨by omega,by rw [hbs];omega⟩,zzq16,zks _ _ _ hbs.symm]):P:=h
theorem zz17{P:Prop}(h:P:=by
 subst hFv;obtain rfl:E=6:=HE.out;obtain rfl:L= []:=HL.out;clear HE HL;go_wp2;go_ret2;exact⟨_,rfl,zdM _,by(try rw [hR]);exact hB2⟩):P:=h
abbrev zzb:=@Nat.le_of_lt
abbrev zzg:=@List.mem_cons_self
abbrev zzh:=@List.mem_cons_of_mem
theorem zz24{P:Prop}(h:P:=by
 have q5:decide ((c:Int)<=57)=true:=by simp;omega
 have q6:((c:Int)==95)=false:=by simp;omega
 have q7:((c:Int)==64)=false:=by simp;omega
 have hok:Hid (zbd 0 c=false):=zzH (by unfold zbd;apply zzD;omega);have hok2:Hid (zbd 0 s[0].toNat=false):=zzH (by rw [<-HR.out.1];exact hok.out);have HV:Hid (zw s=false):=zzH (HB.out hok2.out);clear HG HK HB HR hok hok2;go_wp2_with fail
 (try simp only [Exit.inBlock,Exit.then])
 go_ret;exact⟨zn HV.out.symm,zdJ _ _ _⟩):P:=h
theorem zz22{P:Prop}(h:P:=by
 have q3:decide ((c:Int)<=90)=true:=by simp;omega
 have q4:decide ((48:Int)<=(c:Int))=true:=by simp;omega
 have q5:decide ((c:Int)<=57)=false:=by simp;omega
 have q6:((c:Int)==95)=false:=by simp;omega
 have q7:((c:Int)==64)=false:=by simp;omega
 have hok:Hid (zbd 0 c=false):=zzH (by unfold zbd;apply zzD;omega);have hok2:Hid (zbd 0 s[0].toNat=false):=zzH (by rw [<-HR.out.1];exact hok.out);have HV:Hid (zw s=false):=zzH (HB.out hok2.out);clear HG HK HB HR hok hok2;go_wp2_with fail
 (try simp only [Exit.inBlock,Exit.then])
 go_ret;exact⟨zn HV.out.symm,zdJ _ _ _⟩):P:=h
theorem zz25{P:Prop}(h:P:=by
 have hok2:Hid (zbd 0 s[0].toNat=false):=zzH (by rw [<-HR.out.1];exact hok.out);have HV:Hid (zw s=false):=zzH (HB.out hok2.out);clear HG HK HB HR hok hok2;go_wp2_with fail
 (try simp only [Exit.inBlock,Exit.then])
 go_ret;exact⟨zn HV.out.symm,zdJ _ _ _⟩):P:=h
theorem zz21{P:Prop}(h:P:=by
 have q2:decide ((65:Int)<=(c:Int))=true:=by simp;omega
 have q3:decide ((c:Int)<=90)=false:=by simp;omega
 have q4:decide ((48:Int)<=(c:Int))=true:=by simp;omega
 have q5:decide ((c:Int)<=57)=false:=by simp;omega
 have q6:((c:Int)==95)=false:=by simp;omega
 have q7:((c:Int)==64)=false:=by simp;omega
 have hok:Hid (zbd 0 c=false):=zzH (by unfold zbd;apply zzD;omega);have hok2:Hid (zbd 0 s[0].toNat=false):=zzH (by rw [<-HR.out.1];exact hok.out);have HV:Hid (zw s=false):=zzH (HB.out hok2.out);clear HG HK HB HR hok hok2;go_wp2_with fail
 (try simp only [Exit.inBlock,Exit.then])
 go_ret;exact⟨zn HV.out.symm,zdJ _ _ _⟩):P:=h
theorem zz205{P:Prop}(h:P:=by
 have q6:((c:Int)==95)=false:=by simp;omega
 have q7:((c:Int)==64)=false:=by simp;omega
 have q9:decide ((0:Int)<(pos:Int))=true:=by simp;omega
 have hok:Hid (zbd pos c=false):=zzH (by unfold zbd;apply zzD;omega);have hok2:Hid (zbd pos s[pos].toNat=false):=zzH (by rw [<-HR.out.1];exact hok.out);have HV:Hid (zw s=false):=zzH (HB.out hok2.out);clear HG HK HB HR hok hok2;go_wp2_with fail
 (try simp only [Exit.inBlock,Exit.then])
 go_ret;exact⟨zn HV.out.symm,zdJ _ _ _⟩):P:=h
theorem zz23{P:Prop}(h:P:=by
 have q6:((c:Int)==95)=false:=by simp;omega
 have q7:((c:Int)==64)=false:=by simp;omega
 have q9:decide ((0:Int)<(pos:Int))=true:=by simp;omega
 have hok:Hid (zbd pos c=true):=zzH (by unfold zbd;apply zzT;omega);have hok2:Hid (zbd pos s[pos].toNat=true):=zzH (by rw [<-HR.out.1];exact hok.out);obtain rfl:=HR.out.2 hok2.out;have HG2:=zzH (HK.out hok2.out);clear HG HK HB HR hok hok2;go_wp2_with fail;go_roundw
 case rel=>exact⟨_,by omega,rfl,HG2⟩
 case measure=>simp;omega):P:=h
theorem zz26{P:Prop}(h:P:=by
 have hok2:Hid (zbd pos s[pos].toNat=true):=zzH (by rw [<-HR.out.1];exact hok.out);obtain rfl:=HR.out.2 hok2.out;have HG2:=zzH (HK.out hok2.out);clear HG HK HB HR hok hok2;go_wp2_with fail;go_roundw
 case rel=>exact⟨_,by omega,rfl,HG2⟩
 case measure=>simp;omega):P:=h
theorem zz20{P:Prop}(h:P:=by
 have q2:decide ((65:Int)<=(c:Int))=true:=by simp;omega
 have q3:decide ((c:Int)<=90)=false:=by simp;omega
 have q4:decide ((48:Int)<=(c:Int))=true:=by simp;omega
 have q5:decide ((c:Int)<=57)=false:=by simp;omega
 have q6:((c:Int)==95)=false:=by simp;omega
 have q7:((c:Int)==64)=false:=by simp;omega
 have q9:decide ((0:Int)<(pos:Int))=true:=by simp;omega
 have hok:Hid (zbd pos c=false):=zzH (by unfold zbd;apply zzD;omega);have hok2:Hid (zbd pos s[pos].toNat=false):=zzH (by rw [<-HR.out.1];exact hok.out);have HV:Hid (zw s=false):=zzH (HB.out hok2.out);clear HG HK HB HR hok hok2;go_wp2_with fail
 (try simp only [Exit.inBlock,Exit.then])
 go_ret;exact⟨zn HV.out.symm,zdJ _ _ _⟩):P:=h
theorem zz209{P:Prop}(h:P:=by
 go_wp2_with fail
 (try simp only [Exit.inBlock,Exit.then])
 go_ret;exact⟨zn HV.out.symm,zdJ _ _ _⟩):P:=h
theorem zz27{P:Prop}(h:P:=by
 by_cases h2:n<=b
 ·have E:=zzH (zev h1 h2)
  have d1:decide (a<=n)=true:=zzT h1;have d2:decide (n<=b)=true:=zzT h2;go_in;go_wp2;go_ret;exact⟨zn E.out.symm,rfl⟩
 ·have E:=zzH (zdK (n:=n) (a:=a) (b:=b) (fun h=>h2 h.2))
  have d1:decide (a<=n)=true:=zzT h1;have d2:decide (n<=b)=false:=zzD h2;go_in;go_wp2;go_ret;exact⟨zn E.out.symm,rfl⟩):P:=h
theorem zz28{P:Prop}(h:P:=by
 have E:=zzH (zdK (n:=n) (a:=a) (b:=b) (fun h=>h1 h.1));have d1:decide (a<=n)=false:=zzD h1;go_in;go_wp2;go_ret;exact⟨zn E.out.symm,rfl⟩):P:=h
theorem zz29{P:Prop}(h:P:=by
 go_in;go_wp2_with (go_at_call 197;first|((with_reducible refine(h0 _).mono ?_);rintro e w1 ⟨rfl,rfl⟩)|((with_reducible refine(h1 _).mono ?_);rintro e w1 ⟨rfl,rfl⟩));exact zzj (v:=.tuple #[.agg #[.int .i64 k,.int .i64 0,.int .i64 0,.string ⟨#[]⟩,.string f,.int .i64 a,.slice so l c,.string y,.int .i64 z],.bool (false)]) (by simp [results,Tryz.results196,go_sem]) rfl ⟨rfl,zU _ _ _⟩):P:=h
theorem zz30{P:Prop}(h:P:=by
 obtain⟨q0,q1,q2,q3,q4,q5,q6,q7,q8,z0⟩:=zg r0';obtain⟨p0,p1,p2,p3,p4,p5,p6,p7,p8,z1⟩:=zg r1';go_wp2_with fail;refine zzj (zT rfl _ _ _ (B+1) _ _ _ _ rfl (zcq _ _ _ _ _ _ _ _ _ r1') Tryz.underlying55 (by kernel_rfl)) rfl ?_;exact⟨rfl,by rw [HBE.out];exact zch (Nat.le_succ _) hB' _ _ _ _ _ _ _ _ _⟩):P:=h
theorem zzq10:type_of% @heap_setCell_other:=@heap_setCell_other
theorem zz31{P:Prop}(h:P:=by
 go_upto_region 3 with(go_at_call 197;first|((with_reducible refine(h2 _).mono ?_);rintro e w1 ⟨rfl,rfl⟩));have r0':(((w6.setCell ⟨B,3,none⟩ (.string ⟨#[]⟩)).setCell ⟨B,4,none⟩ (.string ⟨#[]⟩)).setCell ⟨B,5,none⟩ (.int .i64 0)).heap[B]?=some (.cells #[.int .i64 k,.int .i64 i,.int .i64 g,.string ⟨#[]⟩,.string ⟨#[]⟩,.int .i64 0,.slice so l c,.string y,.int .i64 z] 55 (0,0)):=(zzS _ _ 5 _ _ (.int .i64 0) (zzS _ _ 4 _ _ (.string ⟨#[]⟩) (zzS _ _ 3 _ _ (.string ⟨#[]⟩) r0)))
 have r1':(((w6.setCell ⟨B,3,none⟩ (.string ⟨#[]⟩)).setCell ⟨B,4,none⟩ (.string ⟨#[]⟩)).setCell ⟨B,5,none⟩ (.int .i64 0)).heap[B+1]?=some (.cells zC 55 (0,0)):=((zzq10 _ _ _ _ (by simp)).trans ((zzq10 _ _ _ _ (by simp)).trans ((zzq10 _ _ _ _ (by simp)).trans r1)))
 have hB':Below B w (((w6.setCell ⟨B,3,none⟩ (.string ⟨#[]⟩)).setCell ⟨B,4,none⟩ (.string ⟨#[]⟩)).setCell ⟨B,5,none⟩ (.int .i64 0)):=(((hB.setCell (zzL _) _).setCell (zzL _) _).setCell (zzL _) _);clear q0 q1 q2 q3 q4 q5 q6 q7 q8 z0 r0 r1 hB;generalize(((w6.setCell ⟨B,3,none⟩ (.string ⟨#[]⟩)).setCell ⟨B,4,none⟩ (.string ⟨#[]⟩)).setCell ⟨B,5,none⟩ (.int .i64 0))=w9 at *;obtain⟨q0,q1,q2,q3,q4,q5,q6,q7,q8,z0⟩:=zg r0';obtain⟨p0,p1,p2,p3,p4,p5,p6,p7,p8,z1⟩:=zg r1';go_wp2_with fail;refine zzj (zT rfl _ _ _ (B+1) _ _ _ _ rfl (zcq _ _ _ _ _ _ _ _ _ r1') Tryz.underlying55 (by kernel_rfl)) rfl ?_;exact⟨rfl,by rw [HBE.out];exact zch (Nat.le_succ _) hB' _ _ _ _ _ _ _ _ _⟩):P:=h
theorem zz32{P:Prop}(h:P:=by
 cases b0 with
 |false=>
  go_in;go_wp2_with (go_at_call 197;first|((with_reducible refine(h0 _).mono ?_);rintro e w1 ⟨rfl,rfl⟩)|((with_reducible refine(h1 _).mono ?_);rintro e w1 ⟨rfl,rfl⟩)|((with_reducible refine(h3 _).mono ?_);rintro e w1 ⟨rfl,rfl⟩));exact zzj (v:=.tuple #[.agg #[.int .i64 k,.int .i64 0,.int .i64 0,.string ⟨#[]⟩,.string f,.int .i64 0,.slice none 0 0,.string y,.int .i64 z],.bool (false)]) (by simp [results,Tryz.results201,go_sem]) rfl ⟨rfl,zU _ _ _⟩
 |true=>
  cases b1 with
  |false=>
   go_in;go_wp2_with (go_at_call 197;first|((with_reducible refine(h0 _).mono ?_);rintro e w1 ⟨rfl,rfl⟩)|((with_reducible refine(h1 _).mono ?_);rintro e w1 ⟨rfl,rfl⟩)|((with_reducible refine(h3 _).mono ?_);rintro e w1 ⟨rfl,rfl⟩));exact zzj (v:=.tuple #[.agg #[.int .i64 k,.int .i64 0,.int .i64 0,.string ⟨#[]⟩,.string f,.int .i64 0,.slice none 0 0,.string y,.int .i64 z],.bool (false)]) (by simp [results,Tryz.results201,go_sem]) rfl ⟨rfl,zU _ _ _⟩
  |true=>
   go_in;go_wp2_with (go_at_call 197;first|((with_reducible refine(h0 _).mono ?_);rintro e w1 ⟨rfl,rfl⟩)|((with_reducible refine(h1 _).mono ?_);rintro e w1 ⟨rfl,rfl⟩)|((with_reducible refine(h3 _).mono ?_);rintro e w1 ⟨rfl,rfl⟩));refine(h2 _).mono ?_;rintro e w7 ⟨rfl,hb5⟩;have r0:w7.heap[w.heap.size]?=some (.cells #[.int .i64 k,.int .i64 i,.int .i64 g,.string n,.string f,.int .i64 a,.slice so l c,.string y,.int .i64 z] 55 (0,0)):=(hb5.block _ (by simp;omega)).trans (zfD _ _ _)
   have r1:w7.heap[w.heap.size+1]?=some (.cells zC 55 (0,0)):=(hb5.block _ (by simp)).trans (zeR _ _ _)
   have hB:Below w.heap.size w w7:=(zU _ _ _).trans (hb5.mono (by simp;omega));clear hb5;generalize hBe:w.heap.size=B at *;have HBE:=zzH hBe;clear hBe;obtain⟨q0,q1,q2,q3,q4,q5,q6,q7,q8,z0⟩:=zg r0
   cases b2 with
   |false=>
    go_upto_region 3 with(go_at_call 197;first|((with_reducible refine(h0 _).mono ?_);rintro e w1 ⟨rfl,rfl⟩)|((with_reducible refine(h1 _).mono ?_);rintro e w1 ⟨rfl,rfl⟩)|((with_reducible refine(h3 _).mono ?_);rintro e w1 ⟨rfl,rfl⟩));have r0':(((((w7.setCell ⟨B,1,none⟩ (.int .i64 0)).setCell ⟨B,2,none⟩ (.int .i64 0)).setCell ⟨B,3,none⟩ (.string ⟨#[]⟩)).setCell ⟨B,5,none⟩ (.int .i64 0)).setCell ⟨B,6,none⟩ (.slice none 0 0)).heap[B]?=some (.cells #[.int .i64 k,.int .i64 0,.int .i64 0,.string ⟨#[]⟩,.string f,.int .i64 0,.slice none 0 0,.string y,.int .i64 z] 55 (0,0)):=(zzS _ _ 6 _ _ (.slice none 0 0) (zzS _ _ 5 _ _ (.int .i64 0) (zzS _ _ 3 _ _ (.string ⟨#[]⟩) (zzS _ _ 2 _ _ (.int .i64 0) (zzS _ _ 1 _ _ (.int .i64 0) r0)))))
    have r1':(((((w7.setCell ⟨B,1,none⟩ (.int .i64 0)).setCell ⟨B,2,none⟩ (.int .i64 0)).setCell ⟨B,3,none⟩ (.string ⟨#[]⟩)).setCell ⟨B,5,none⟩ (.int .i64 0)).setCell ⟨B,6,none⟩ (.slice none 0 0)).heap[B+1]?=some (.cells zC 55 (0,0)):=((zzq10 _ _ _ _ (by simp)).trans ((zzq10 _ _ _ _ (by simp)).trans ((zzq10 _ _ _ _ (by simp)).trans ((zzq10 _ _ _ _ (by simp)).trans ((zzq10 _ _ _ _ (by simp)).trans r1)))))
    have hB':Below B w (((((w7.setCell ⟨B,1,none⟩ (.int .i64 0)).setCell ⟨B,2,none⟩ (.int .i64 0)).setCell ⟨B,3,none⟩ (.string ⟨#[]⟩)).setCell ⟨B,5,none⟩ (.int .i64 0)).setCell ⟨B,6,none⟩ (.slice none 0 0)):=(((((hB.setCell (zzL _) _).setCell (zzL _) _).setCell (zzL _) _).setCell (zzL _) _).setCell (zzL _) _);clear q0 q1 q2 q3 q4 q5 q6 q7 q8 z0 r0 r1 hB;generalize(((((w7.setCell ⟨B,1,none⟩ (.int .i64 0)).setCell ⟨B,2,none⟩ (.int .i64 0)).setCell ⟨B,3,none⟩ (.string ⟨#[]⟩)).setCell ⟨B,5,none⟩ (.int .i64 0)).setCell ⟨B,6,none⟩ (.slice none 0 0))=w9 at *;obtain⟨q0,q1,q2,q3,q4,q5,q6,q7,q8,z0⟩:=zg r0';obtain⟨p0,p1,p2,p3,p4,p5,p6,p7,p8,z1⟩:=zg r1';go_wp2_with fail;refine zzj (zT rfl _ _ _ (B+1) _ _ _ _ rfl (zcq _ _ _ _ _ _ _ _ _ r1') Tryz.underlying55 (by kernel_rfl)) rfl ?_;exact⟨rfl,by rw [HBE.out];exact zch (Nat.le_succ _) hB' _ _ _ _ _ _ _ _ _⟩
   |true=>
    cases b3 with
    |false=>
     go_upto_region 3 with(go_at_call 197;first|((with_reducible refine(h0 _).mono ?_);rintro e w1 ⟨rfl,rfl⟩)|((with_reducible refine(h1 _).mono ?_);rintro e w1 ⟨rfl,rfl⟩)|((with_reducible refine(h3 _).mono ?_);rintro e w1 ⟨rfl,rfl⟩));have r0':(((((w7.setCell ⟨B,1,none⟩ (.int .i64 0)).setCell ⟨B,2,none⟩ (.int .i64 0)).setCell ⟨B,3,none⟩ (.string ⟨#[]⟩)).setCell ⟨B,5,none⟩ (.int .i64 0)).setCell ⟨B,6,none⟩ (.slice none 0 0)).heap[B]?=some (.cells #[.int .i64 k,.int .i64 0,.int .i64 0,.string ⟨#[]⟩,.string f,.int .i64 0,.slice none 0 0,.string y,.int .i64 z] 55 (0,0)):=(zzS _ _ 6 _ _ (.slice none 0 0) (zzS _ _ 5 _ _ (.int .i64 0) (zzS _ _ 3 _ _ (.string ⟨#[]⟩) (zzS _ _ 2 _ _ (.int .i64 0) (zzS _ _ 1 _ _ (.int .i64 0) r0)))))
     have r1':(((((w7.setCell ⟨B,1,none⟩ (.int .i64 0)).setCell ⟨B,2,none⟩ (.int .i64 0)).setCell ⟨B,3,none⟩ (.string ⟨#[]⟩)).setCell ⟨B,5,none⟩ (.int .i64 0)).setCell ⟨B,6,none⟩ (.slice none 0 0)).heap[B+1]?=some (.cells zC 55 (0,0)):=((zzq10 _ _ _ _ (by simp)).trans ((zzq10 _ _ _ _ (by simp)).trans ((zzq10 _ _ _ _ (by simp)).trans ((zzq10 _ _ _ _ (by simp)).trans ((zzq10 _ _ _ _ (by simp)).trans r1)))))
     have hB':Below B w (((((w7.setCell ⟨B,1,none⟩ (.int .i64 0)).setCell ⟨B,2,none⟩ (.int .i64 0)).setCell ⟨B,3,none⟩ (.string ⟨#[]⟩)).setCell ⟨B,5,none⟩ (.int .i64 0)).setCell ⟨B,6,none⟩ (.slice none 0 0)):=(((((hB.setCell (zzL _) _).setCell (zzL _) _).setCell (zzL _) _).setCell (zzL _) _).setCell (zzL _) _);clear q0 q1 q2 q3 q4 q5 q6 q7 q8 z0 r0 r1 hB;generalize(((((w7.setCell ⟨B,1,none⟩ (.int .i64 0)).setCell ⟨B,2,none⟩ (.int .i64 0)).setCell ⟨B,3,none⟩ (.string ⟨#[]⟩)).setCell ⟨B,5,none⟩ (.int .i64 0)).setCell ⟨B,6,none⟩ (.slice none 0 0))=w9 at *;obtain⟨q0,q1,q2,q3,q4,q5,q6,q7,q8,z0⟩:=zg r0';obtain⟨p0,p1,p2,p3,p4,p5,p6,p7,p8,z1⟩:=zg r1';go_wp2_with fail;refine zzj (zT rfl _ _ _ (B+1) _ _ _ _ rfl (zcq _ _ _ _ _ _ _ _ _ r1') Tryz.underlying55 (by kernel_rfl)) rfl ?_;exact⟨rfl,by rw [HBE.out];exact zch (Nat.le_succ _) hB' _ _ _ _ _ _ _ _ _⟩
    |true=>
     go_upto_region 3 with(go_at_call 197;first|((with_reducible refine(h0 _).mono ?_);rintro e w1 ⟨rfl,rfl⟩)|((with_reducible refine(h1 _).mono ?_);rintro e w1 ⟨rfl,rfl⟩)|((with_reducible refine(h3 _).mono ?_);rintro e w1 ⟨rfl,rfl⟩));have r0':(((((w7.setCell ⟨B,1,none⟩ (.int .i64 0)).setCell ⟨B,2,none⟩ (.int .i64 0)).setCell ⟨B,3,none⟩ (.string ⟨#[]⟩)).setCell ⟨B,5,none⟩ (.int .i64 0)).setCell ⟨B,6,none⟩ (.slice none 0 0)).heap[B]?=some (.cells #[.int .i64 k,.int .i64 0,.int .i64 0,.string ⟨#[]⟩,.string f,.int .i64 0,.slice none 0 0,.string y,.int .i64 z] 55 (0,0)):=(zzS _ _ 6 _ _ (.slice none 0 0) (zzS _ _ 5 _ _ (.int .i64 0) (zzS _ _ 3 _ _ (.string ⟨#[]⟩) (zzS _ _ 2 _ _ (.int .i64 0) (zzS _ _ 1 _ _ (.int .i64 0) r0)))))
     have r1':(((((w7.setCell ⟨B,1,none⟩ (.int .i64 0)).setCell ⟨B,2,none⟩ (.int .i64 0)).setCell ⟨B,3,none⟩ (.string ⟨#[]⟩)).setCell ⟨B,5,none⟩ (.int .i64 0)).setCell ⟨B,6,none⟩ (.slice none 0 0)).heap[B+1]?=some (.cells zC 55 (0,0)):=((zzq10 _ _ _ _ (by simp)).trans ((zzq10 _ _ _ _ (by simp)).trans ((zzq10 _ _ _ _ (by simp)).trans ((zzq10 _ _ _ _ (by simp)).trans ((zzq10 _ _ _ _ (by simp)).trans r1)))))
     have hB':Below B w (((((w7.setCell ⟨B,1,none⟩ (.int .i64 0)).setCell ⟨B,2,none⟩ (.int .i64 0)).setCell ⟨B,3,none⟩ (.string ⟨#[]⟩)).setCell ⟨B,5,none⟩ (.int .i64 0)).setCell ⟨B,6,none⟩ (.slice none 0 0)):=(((((hB.setCell (zzL _) _).setCell (zzL _) _).setCell (zzL _) _).setCell (zzL _) _).setCell (zzL _) _);clear q0 q1 q2 q3 q4 q5 q6 q7 q8 z0 r0 r1 hB;generalize(((((w7.setCell ⟨B,1,none⟩ (.int .i64 0)).setCell ⟨B,2,none⟩ (.int .i64 0)).setCell ⟨B,3,none⟩ (.string ⟨#[]⟩)).setCell ⟨B,5,none⟩ (.int .i64 0)).setCell ⟨B,6,none⟩ (.slice none 0 0))=w9 at *;obtain⟨q0,q1,q2,q3,q4,q5,q6,q7,q8,z0⟩:=zg r0';obtain⟨p0,p1,p2,p3,p4,p5,p6,p7,p8,z1⟩:=zg r1';go_wp2_with fail;refine zzj (zT rfl _ _ _ (B+1) _ _ _ _ rfl (zcq _ _ _ _ _ _ _ _ _ r1') Tryz.underlying55 (by kernel_rfl)) rfl ?_;exact⟨rfl,by rw [HBE.out];exact zch (Nat.le_succ _) hB' _ _ _ _ _ _ _ _ _⟩):P:=h
theorem zzq11:type_of% @List.getElem?_eq_getElem.{0}:=@List.getElem?_eq_getElem
theorem zz33{P:Prop}(h:P:=by
 go_in;go_wp2_with (go_at_call 197;refine(h0 _).mono ?_;rintro e w1 ⟨rfl,rfl⟩);exact zzj (v:=.tuple #[.agg #[.int .i64 k,.int .i64 i,.int .i64 g,.string n,.string f,.int .i64 a,.slice so l c,.string ⟨#[]⟩,.int .i64 0],.bool false]) (by simp [results,Tryz.results206,go_sem]) rfl ⟨rfl,zU _ _ _⟩):P:=h
theorem zzq9:type_of% @Bool.false_or:=@Bool.false_or
theorem zzq8:type_of% @List.drop_eq_nil_of_le.{0}:=@List.drop_eq_nil_of_le
theorem zz34{P:Prop}(h:P:=by
 simp only [zzq15,Bool.false_and,Bool.and_true,Bool.and_false]at E0;go_in;go_wp2;go_ret;exact⟨zn E0.out.symm,HBE.out⟩):P:=h
theorem zz35{P:Prop}(h:P:=by
 rintro e w' ⟨rfl,hb'⟩;refine⟨so,c,?_,?_,hb'⟩
 ·(rw [e1,e2])<;>rfl
 ·rw [e1];exact hs):P:=h
theorem zz36{P:Prop}(h:P:=by
 have e1:ze t= .mk t.kind 0 0 ⟨#[]⟩ t.func t.arity t.items t.bytes t.bits:=by unfold ze;simp [hk]
 have e2:okK t=(wi t.int 1 2147483647&&wi t.gen 1 2147483647&&zw t.name):=by unfold okK;simp [hk]
 refine(zrj t.kind t.int t.gen t.name t.func t.arity so t.items.length c t.bytes t.bits w).mono ?_;rintro e w' ⟨rfl,hb'⟩;refine⟨so,c,?_,?_,hb'⟩
 ·(rw [e1,e2])<;>rfl
 ·rw [e1];exact hs):P:=h
theorem zz37{P:Prop}(h:P:=by
 rintro e w' ⟨rfl,hb'⟩;refine⟨none,0,?_,?_,hb'⟩
 ·(rw [e1,e2])<;>rfl
 ·rw [e1];exact SlAt.nil w0 9 _ none):P:=h
theorem zz38{P:Prop}(h:P:=by
 go_in;go_wp2;go_ret;exact⟨zn E.out.symm,zbr H2.out _,s,Int.le_refl _,by omega,hm.below H2.out,fun h=>absurd (E.out.symm.trans h) (by decide)⟩):P:=h
theorem zz42{P:Prop}(h:P:=by
 go_wp2_with fail;go_meet
 case rel=>exact⟨_,so',c',rfl,rfl,hbb.size,hs',zzF _ _,hbb.alloc hbb.size _⟩):P:=h
theorem zz41{P:Prop}(h:P:=by
 go_wp2_with fail;go_meet
 case rel=>exact⟨_,so',c',rfl,rfl,zzL _,hs',zcq _ _ _ _ _ _ _ _ _ XL.out,zch (zzL _) hbb _ _ _ _ _ _ _ _ _⟩):P:=h
theorem zz39{P:Prop}(h:P:=by
 first|go_region_held3 (fun w'=>W2.heap.size<=w'.heap.size/\ ∀b o,b<W2.heap.size->w'.cell? ⟨b,o,none⟩=W2.cell? ⟨b,o,none⟩) (first|with_reducible exact HK5.out|with_reducible exact SK0.out|with_reducible exact zbL SK0.out|with_reducible exact SK1.out|with_reducible exact zbL HK5.out|with_reducible exact zdT HK5.out)
  ((go_at_call 196;refine(hQ _).mono ?_;rintro e w5 ⟨so',c',rfl,hs',hb5⟩;first|(have hbb:Below W2.heap.size W2 w5:=(by with_reducible exact zd HDR.out hb5);have HK5:=zzH (zY hbb))|(have hbb:Below W2.heap.size W2 w5:=(by with_reducible exact zd HDA.out hb5);have xl:w5.heap[W2.heap.size]?=some (.cells zC 55 (0,0)):=(hb5.block W2.heap.size (zc HAN.out)).trans HAN.out;have XL:=zzH xl;obtain⟨l0,l1,l2,l3,l4,l5,l6,l7,l8,lz⟩:=zg xl;clear xl;have HK5:=zzH (zY hbb))))|fail
 ·go_wp2_with fail
  go_meet
  case rel=>exact⟨_,so',c',rfl,rfl,hbb.size,hs',zzF _ _,hbb.alloc hbb.size _⟩
 ·go_wp2_with fail
  go_meet
  case rel=>exact⟨_,so',c',rfl,rfl,zzL _,hs',zcq _ _ _ _ _ _ _ _ _ XL.out,zch (zzL _) hbb _ _ _ _ _ _ _ _ _⟩):P:=h
theorem zz40{P:Prop}(h:P:=by
 clear hR0 hR1 yz;generalize t.items.all (zj f)=al at *;generalize zbB (t.items.map (zt f))=sw at *;generalize zbR (t.items.map (zG f))=sc at *
 cases al with
 |false=>
  go_wp2_with fail;refine hCF.mono ?_;rintro e w9 ⟨rfl,hg9,s',z1,z2,z3,z4⟩;go_wp2;go_ret;exact⟨zn EF.out.symm,zk HG8.out hg9,s',by omega,by omega,z3,fun h=>absurd (EF.out.symm.trans h) (by decide)⟩
 |true=>
  go_wp2_with fail;refine hCF.mono ?_;rintro e w9 ⟨rfl,hg9,s',z1,z2,z3,z4⟩;go_wp2;go_ret;exact⟨zn EF.out.symm,zk HG8.out hg9,s',by omega,by omega,z3,fun _=>by rw [EW.out,z4 (by trivial)];omega⟩):P:=h
theorem zz43{P:Prop}(h:P:=by
 have h:=(hB0r.cell (p:=⟨b1,off1+k*9+6,none⟩) hb1').symm.trans q6;rw [q6']at h;injection h with h;injection h with h1 h2;exact h1.symm):P:=h
theorem zz44{P:Prop}(h:P:=by
 go_wp2_with fail;go_roundw
 case rel=>exact⟨k+1,by omega,by go_num,HG5⟩
 case measure=>simp [intOf];omega):P:=h
theorem zz45{P:Prop}(h:P:=by
 go_in;go_wp2_with fail;refine hS.mono ?_;rintro e w5 ⟨rfl,hb5⟩;go_wp2;go_ret;exact⟨zcQ E.out.symm,zd HB.out hb5⟩):P:=h
theorem zz46{P:Prop}(h:P:=by
 go_in;go_wp2_with (go_at_call 110;refine(zO _ _ _ _).mono ?_;rintro e w1 ⟨rfl,rfl⟩);go_ret;exact⟨zn E.out.symm,hbe⟩):P:=h
theorem zz47{P:Prop}(h:P:=by
 go_wp2;go_ret;exact⟨zn E.out.symm,hbe⟩):P:=h
abbrev zze:=@Calls.quiet_of_same
theorem zz48{P:Prop}(h:P:=by
 go_in;go_wp2;refine zzj (zT rfl _ _ _ w.heap.size _ _ _ _ rfl (zzF _ _) Tryz.underlying131 (by kernel_rfl)) rfl ?_;exact⟨rfl,zzE _ _⟩):P:=h
theorem zzc3{w:World}{B:Nat}{v0 v1 v2:Value}{l:List Value}{T:Nat}{o:Nat×Nat}(h:w.heap[B]?=some (.cells (v0::v1::v2::l).toArray T o)):w.cell? ⟨B,0,none⟩=some v0/\w.cell? ⟨B,1,none⟩=some v1/\w.cell? ⟨B,2,none⟩=some v2:=⟨zzq2 w B 0 _ _ _ h,zzq2 w B 1 _ _ _ h,zzq2 w B 2 _ _ _ h⟩
theorem zz49{P:Prop}(h:P:=by
 go_wp2_with fail;go_meet
 case rel=>exact⟨_,rfl,zzH (by rw [hq4];first|rfl|(simp;done)|(simp [bne];done)|(rw [Bool.eq_iff_iff];simp;done)|(rw [Bool.eq_iff_iff];simp;omega)),rfl⟩):P:=h
theorem zz50{P:Prop}(h:P:=by
 go_wp2;go_ret;exact⟨zn E.out.symm,hBW⟩):P:=h
abbrev zza:=@of_decide_eq_true
theorem zz53{P:Prop}(h:P:=by
 go_in;go_wp2_with fail;refine(hnm _).mono ?_;rintro e w5 ⟨rfl,hb5⟩;have d1:=(HU.out.below hb5).c1;have d2:=(HU.out.below hb5).c2;have d3:=(HU.out.below hb5).c3;have d4:=(HU.out.below hb5).c4;go_wp2;go_ret;exact⟨zn E.out.symm,hb5⟩):P:=h
theorem zz52{P:Prop}(h:P:=by
 have E:Hid (zM (f+1) u=false):=zzH (by rw [HE2.out,HNO.out (.inl (by rw [HFO.out];rfl))];rfl);go_wp2_with (go_at_call 110;first|((with_reducible refine(hwa _).mono ?_);rintro e w1 ⟨rfl,rfl⟩)|((with_reducible refine(hwe _).mono ?_);rintro e w1 ⟨rfl,rfl⟩));go_ret;exact⟨zn E.out.symm,HB6.out⟩):P:=h
theorem zz51{P:Prop}(h:P:=by
 have E:=zzH (HNO.out (by rw [HFB2.out];rfl));go_wp2_with (go_at_call 110;first|((with_reducible refine(hwa _).mono ?_);rintro e w1 ⟨rfl,rfl⟩)|((with_reducible refine(hwf _).mono ?_);rintro e w1 ⟨rfl,rfl⟩)|((with_reducible refine(hwe _).mono ?_);rintro e w1 ⟨rfl,rfl⟩));go_ret;exact⟨zn E.out.symm,HBX.out⟩):P:=h
theorem zz55{P:Prop}(h:P:=by
 have t1:(x.n==1)=true:=by rw [n1];rfl
 have E2:Hid (zl u.funcs.length u.funs x=true):=zzH (by rw [E.out,decide_eq_true n1];rfl);clear n1;go_in;go_wp2;go_ret;exact⟨zn E2.out.symm,zzR _ _⟩):P:=h
theorem zz54{P:Prop}(h:P:=by
 have t1:(x.n==1)=false:=zzB.2 n1;by_cases n8:x.n=8
 ·have t2:(x.n==8)=true:=by rw [n8];rfl
  have E2:Hid (zl u.funcs.length u.funs x=true):=zzH (by rw [E.out,decide_eq_true n8];simp);clear n1 n8;go_in;go_wp2;go_ret;exact⟨zn E2.out.symm,zzR _ _⟩
 ·have t2:(x.n==8)=false:=zzB.2 n8
  have E2:Hid (zl u.funcs.length u.funs x=false):=zzH (by rw [E.out,decide_eq_false n1,decide_eq_false n8];rfl);clear n1 n8;go_in;go_wp2;go_ret;exact⟨zn E2.out.symm,zzR _ _⟩):P:=h
theorem zz57{P:Prop}(h:P:=by
 exact this.mono fun _ _ ⟨a,b⟩=>⟨a,b.symm⟩):P:=h
theorem zz56{P:Prop}(h:P:=by
 clear hz hm;go_in;go_wp2_with fail;go_quiet ((go_at_call 110;exact zze (hwr _)));go_wp2;go_ret;exact⟨zn E3.out.symm,zP (zzR _ _) _⟩):P:=h
theorem zz58{P:Prop}(h:P:=by
 go_in;go_wp2;go_ret;exact⟨zn E.out.symm,rfl⟩):P:=h
theorem zzq19:type_of% @Bool.or_false:=@Bool.or_false
theorem zzq13:type_of% @Bool.true_or:=@Bool.true_or
theorem zzq12:type_of% @Bool.or_true:=@Bool.or_true
theorem zzX4:type_of% (And.intro @Bool.true_or (And.intro @Bool.or_true (And.intro @Bool.false_or (And.intro @Bool.or_false (And.intro @Bool.and_true (And.intro @Bool.and_false (And.intro @Bool.true_and (And.intro @Bool.false_and (And.intro @Bool.not_true @Bool.not_false))))))))):=And.intro @Bool.true_or (And.intro @Bool.or_true (And.intro @Bool.false_or (And.intro @Bool.or_false (And.intro @Bool.and_true (And.intro @Bool.and_false (And.intro @Bool.true_and (And.intro @Bool.false_and (And.intro @Bool.not_true @Bool.not_false))))))))
theorem zz60{P:Prop}(h:P:=by
 simp only [zzX4]at E0;go_in;go_wp2_with (first|(go_at_call 113;refine(hO _).mono ?_;rintro e w1 ⟨rfl,rfl⟩)|(go_at_call 114;refine hCl.mono ?_;rintro e w5 ⟨rfl,hb5⟩))
 all_goals go_ret
 all_goals first
  |exact⟨zn E0.out.symm,zzR _ _⟩
  |exact⟨zn E0.out.symm,hb5⟩):P:=h
theorem zz59{P:Prop}(h:P:=by
 cases t3:(nm.toList== [43,43])with
 |true=>
  simp only [t3]at E0
  cases q1:(cl==1)with
  |true=>
   simp only [q1]at E0;simp only [zzX4]at E0;go_in;go_wp2_with (first|(go_at_call 113;refine(hO _).mono ?_;rintro e w1 ⟨rfl,rfl⟩)|(go_at_call 114;refine hCl.mono ?_;rintro e w5 ⟨rfl,hb5⟩))
   all_goals go_ret
   all_goals first
    |exact⟨zn E0.out.symm,zzR _ _⟩
    |exact⟨zn E0.out.symm,hb5⟩
  |false=>
   simp only [q1]at E0;simp only [zzX4]at E0;go_in;go_wp2_with (first|(go_at_call 113;refine(hO _).mono ?_;rintro e w1 ⟨rfl,rfl⟩)|(go_at_call 114;refine hCl.mono ?_;rintro e w5 ⟨rfl,hb5⟩))
   all_goals go_ret
   all_goals first
    |exact⟨zn E0.out.symm,zzR _ _⟩
    |exact⟨zn E0.out.symm,hb5⟩
 |false=>
  simp only [t3]at E0
  cases ob with
  |true=>
   simp only [zzX4]at E0;go_in;go_wp2_with (first|(go_at_call 113;refine(hO _).mono ?_;rintro e w1 ⟨rfl,rfl⟩)|(go_at_call 114;refine hCl.mono ?_;rintro e w5 ⟨rfl,hb5⟩))
   all_goals go_ret
   all_goals first
    |exact⟨zn E0.out.symm,zzR _ _⟩
    |exact⟨zn E0.out.symm,hb5⟩
  |false=>
   cases q1:(cl==1)with
   |true=>
    simp only [q1]at E0;simp only [zzX4]at E0;go_in;go_wp2_with (first|(go_at_call 113;refine(hO _).mono ?_;rintro e w1 ⟨rfl,rfl⟩)|(go_at_call 114;refine hCl.mono ?_;rintro e w5 ⟨rfl,hb5⟩))
    all_goals go_ret
    all_goals first
     |exact⟨zn E0.out.symm,zzR _ _⟩
     |exact⟨zn E0.out.symm,hb5⟩
   |false=>
    simp only [q1]at E0;simp only [zzX4]at E0;go_in;go_wp2_with (first|(go_at_call 113;refine(hO _).mono ?_;rintro e w1 ⟨rfl,rfl⟩)|(go_at_call 114;refine hCl.mono ?_;rintro e w5 ⟨rfl,hb5⟩))
    all_goals go_ret
    all_goals first
     |exact⟨zn E0.out.symm,zzR _ _⟩
     |exact⟨zn E0.out.symm,hb5⟩):P:=h
theorem zz62{P:Prop}(h:P:=by
 simp only [zzq13,zzq12,zzq9,zzq19]at E0;go_in;go_wp2_with fail;refine hCl.mono ?_;rintro e w5 ⟨rfl,hb5⟩;have d3:=(hb5.cell (p:=⟨b,o+3,none⟩) hlt).trans c3;have d7:=(hb5.cell (p:=⟨b,o+7,none⟩) hlt).trans c7;go_wp2_with (go_at_call 113;refine(hO _).mono ?_;rintro e w1 ⟨rfl,rfl⟩)
 all_goals go_ret
 all_goals exact⟨zn E0.out.symm,hb5⟩):P:=h
theorem zz61{P:Prop}(h:P:=by
 simp only [q2]at E0;simp only [zzq13,zzq12,zzq9,zzq19]at E0;go_in;go_wp2_with fail;refine hCl.mono ?_;rintro e w5 ⟨rfl,hb5⟩;have d3:=(hb5.cell (p:=⟨b,o+3,none⟩) hlt).trans c3;have d7:=(hb5.cell (p:=⟨b,o+7,none⟩) hlt).trans c7;go_wp2_with (go_at_call 113;refine(hO _).mono ?_;rintro e w1 ⟨rfl,rfl⟩)
 all_goals go_ret
 all_goals exact⟨zn E0.out.symm,hb5⟩):P:=h
theorem zz63{P:Prop}(h:P:=by
 simp only [q3]at E0;simp only [zzq13,zzq12,zzq9,zzq19,Bool.and_true,Bool.and_false,zzq15,Bool.false_and]at E0;go_in;go_wp2_with fail
 first|go_region_held3 (fun w'=>w'.cell? ⟨b,o+7,none⟩=some (.string nm)/\w'.cell? ⟨b,o+5,none⟩=some (.int .i64 ln)) (exact⟨by assumption,by assumption⟩)
  ((go_at_call 114;refine(hCl _ ?_).mono ?_;exact HDR.out;rintro e w5 ⟨rfl,hb5⟩;have d7:=(hb5.cell (p:=⟨b,o+7,none⟩) hlt).trans c7;have d5:=(hb5.cell (p:=⟨b,o+5,none⟩) hlt).trans c5))|fail
 go_wp2;go_ret
 first
  |exact⟨zn E0.out.symm,hb5⟩
  |exact⟨zn E0.out.symm,zzR _ _⟩):P:=h
theorem zzX3:type_of% (And.intro @Act.put.eq_1 (And.intro @List.setIfInBounds_toArray.{0} (And.intro @List.set_cons_zero.{0} (And.intro @List.set_cons_succ.{0} (And.intro @List.getElem_toArray.{0} (And.intro @List.getElem_cons_zero.{0} @List.getElem_cons_succ.{0})))))):=And.intro @Act.put.eq_1 (And.intro @List.setIfInBounds_toArray.{0} (And.intro @List.set_cons_zero.{0} (And.intro @List.set_cons_succ.{0} (And.intro @List.getElem_toArray.{0} (And.intro @List.getElem_cons_zero.{0} @List.getElem_cons_succ.{0})))))
theorem zz64{P:Prop}(h:P:=by
 go_in;go_wp2_with (go_at_call 219;refine(zlr _ _).mono ?_;rintro e w1 ⟨rfl,rfl⟩);go_ret;exact⟨zcQ E.out.symm,rfl⟩):P:=h
theorem zz69{P:Prop}(h:P:=by
 go_wp2_with (go_at_call 110;refine(hwi _).mono ?_;rintro e w1 ⟨rfl,rfl⟩);go_meet
 case rel=>exact⟨_,rfl,zzH (by rw [hv.out];(first|rfl|(rw [sd];rfl)|(rw [decide_eq_true s60'];rfl))),rfl⟩):P:=h
theorem zz70{P:Prop}(h:P:=by
 go_wp2_with fail;go_meet
 case rel=>exact⟨_,rfl,zzH (by rw [hv.out];(first|rfl|(rw [sd];rfl)|(rw [decide_eq_true s60'];rfl))),rfl⟩):P:=h
theorem zz71{P:Prop}(h:P:=by
 by_cases h:0<=cl'/\cl'<=(u.lits.length:Int)-1
 ·exact h
 ·rw [zdK h]at hprev;cases hprev):P:=h
theorem zz67{P:Prop}(h:P:=by
 rw [hz]at HSB;clear hz;have hsv0:sb=false:=by rw [HSB.out];simp []
 have HSV:=zzH hsv0;clear hsv0;go_wp2_with (go_at_call 110;refine(hwt _).mono ?_;rintro e w1 ⟨rfl,rfl⟩);have HE3:Hid (zbo u.lits x=false):=zzH (by rw [HE2.out,HK.out,HST.out,HSV.out];rfl);go_ret;exact⟨zn HE3.out.symm,HBQ.out.trans (HBX.out.mono HBQ.out.size)⟩):P:=h
theorem zz66{P:Prop}(h:P:=by
 rw [hz]at HSB;clear hz;have hsv0:sb=false:=by rw [HSB.out];simp []
 have HSV:=zzH hsv0;clear hsv0;go_wp2_with (go_at_call 110;refine(hwt _).mono ?_;rintro e w1 ⟨rfl,rfl⟩);refine(hop1 _ HBX.out).mono ?_;rintro e w5 ⟨rfl,hb5⟩;have HB5:=zzH (zd HBX.out hb5);have hbra:=(hb5.block wr.heap.size (zc HBR.out)).trans HBR.out;obtain⟨g0,g1,g2,g3,g4,g5⟩:=zc4 hbra;clear hb5;have HE3:Hid (zbo u.lits x=false):=zzH (by rw [HE2.out,HK.out,HST.out,HSV.out];rfl);go_wp2;go_ret;exact⟨zn HE3.out.symm,HBQ.out.trans (HB5.out.mono HBQ.out.size)⟩):P:=h
theorem zz65{P:Prop}(h:P:=by
 rw [hz]at HSB;clear hz
 cases os with
 |false=>
  have hsv0:sb=false:=by rw [HSB.out];simp []
  have HSV:=zzH hsv0;clear hsv0;go_wp2_with (go_at_call 110;refine(hwt _).mono ?_;rintro e w1 ⟨rfl,rfl⟩);refine(hop1 _ HBX.out).mono ?_;rintro e w5 ⟨rfl,hb5⟩;have HB5:=zzH (zd HBX.out hb5);have hbra:=(hb5.block wr.heap.size (zc HBR.out)).trans HBR.out;obtain⟨g0,g1,g2,g3,g4,g5⟩:=zc4 hbra;clear hb5;go_wp2_with fail;refine(hop2 _ HB5.out).mono ?_;rintro e w6 ⟨rfl,hb6⟩;have HB6:=zzH (zd HB5.out hb6);clear g0 g1 g2 g3 g4 g5;have hbrb:=(hb6.block wr.heap.size (zc hbra)).trans hbra;obtain⟨g0,g1,g2,g3,g4,g5⟩:=zc4 hbrb;clear hb6;have HE3:Hid (zbo u.lits x=false):=zzH (by rw [HE2.out,HK.out,HST.out,HSV.out];rfl);go_wp2;go_ret;exact⟨zn HE3.out.symm,HBQ.out.trans (HB6.out.mono HBQ.out.size)⟩
 |true=>
  go_wp2_with (go_at_call 110;refine(hwt _).mono ?_;rintro e w1 ⟨rfl,rfl⟩);refine(hop1 _ HBX.out).mono ?_;rintro e w5 ⟨rfl,hb5⟩;have HB5:=zzH (zd HBX.out hb5);have hbra:=(hb5.block wr.heap.size (zc HBR.out)).trans HBR.out;obtain⟨g0,g1,g2,g3,g4,g5⟩:=zc4 hbra;clear hb5;go_wp2_with fail;refine(hop2 _ HB5.out).mono ?_;rintro e w6 ⟨rfl,hb6⟩;have HB6:=zzH (zd HB5.out hb6);clear g0 g1 g2 g3 g4 g5;have hbrb:=(hb6.block wr.heap.size (zc hbra)).trans hbra;obtain⟨g0,g1,g2,g3,g4,g5⟩:=zc4 hbrb;clear hb6
  cases lit with
  |false=>
   have hsv0:sb=true:=by rw [HSB.out];simp []
   have HSV:=zzH hsv0;clear hsv0;have HK2:Hid (x.segs.all (zbN u.lits.length)=(x.segs.drop (k+1)).all (zbN u.lits.length)):=zzH (by rw [HK.out,HST.out,HSV.out];rfl);go_wp2_with fail;go_roundw
   case rel=>exact⟨k+1,by omega,by go_num,HK2,HBQ.out.trans (HB6.out.mono HBQ.out.size)⟩
   case measure=>simp [intOf];omega
  |true=>
   cases ty1:(ty==1)with
   |true=>
    have ty2 : (ty != 1) = false := by unfold bne; rw [ty1]; rfl
    have hsv0:sb=true:=by rw [HSB.out];simp [ty1]
    have HSV:=zzH hsv0;clear hsv0;have HK2:Hid (x.segs.all (zbN u.lits.length)=(x.segs.drop (k+1)).all (zbN u.lits.length)):=zzH (by rw [HK.out,HST.out,HSV.out];rfl);go_wp2_with fail;go_roundw
    case rel=>exact⟨k+1,by omega,by go_num,HK2,HBQ.out.trans (HB6.out.mono HBQ.out.size)⟩
    case measure=>simp [intOf];omega
   |false=>
    have ty2 : (ty != 1) = true := by unfold bne; rw [ty1]; rfl
    have hsv0:sb=false:=by rw [HSB.out];simp [ty1]
    have HSV:=zzH hsv0;clear hsv0;have HE3:Hid (zbo u.lits x=false):=zzH (by rw [HE2.out,HK.out,HST.out,HSV.out];rfl);go_wp2;go_ret;exact⟨zn HE3.out.symm,HBQ.out.trans (HB6.out.mono HBQ.out.size)⟩):P:=h
theorem zz68{P:Prop}(h:P:=by
 have HSV:=zzH hsv0;clear hsv0;have HK2:Hid (x.segs.all (zbN u.lits.length)=(x.segs.drop (k+1)).all (zbN u.lits.length)):=zzH (by rw [HK.out,HST.out,HSV.out];rfl);go_wp2_with fail;go_roundw
 case rel=>exact⟨k+1,by omega,by go_num,HK2,HBQ.out.trans (HB5.out.mono HBQ.out.size)⟩
 case measure=>simp [intOf];omega):P:=h
theorem zz72{P:Prop}(h:P:=by
 unfold wi at h;rw [zzq6,zzq7,zzq7]at h;exact h):P:=h
theorem zz73{P:Prop}(h:P:=by
 have hb:=h i cs t fr hi h1 h2;refine(hg.block i (zc hb) (fun e=>?_)).trans hb;obtain⟨c',fz,hk⟩:=Lib.ownsRow_kind ho i e.symm;rw [hb]at hk;injection hk with hk;injection hk with _ h3 _;exact h1 h3):P:=h
theorem zz74{P:Prop}(h:P:=by
 have hb:=h i cs t fr hi h1 h2;refine(Below.heap_setCell _ _ _ _ (fun e=>?_)).trans hb;simp only at e;subst e;rw [hb]at hr;injection hr with hr;injection hr with _ h3 _;exact h2 h3):P:=h
theorem zz75{P:Prop}(h:P:=by
 rw [hgrow.block r (by simp;omega) (fun e=>hne e.symm)];exact(Below.heap_alloc _ _ _ hrl).trans hbk):P:=h
theorem zz76{P:Prop}(h:P:=by
 rcases hloc with e|e
 ·rw [e];exact hne
 ·rw [e];intro e2;have:=zzf e2;omega):P:=h
theorem zz77{P:Prop}(h:P:=by
 rw [zeg,zzq1];exact ho.kept ⟨rfl,rfl,rfl,by simp [World.setCell],fun k _ hk=>Below.heap_setCell _ _ _ _ (fun e=>hk (by rw [e]))⟩ (.inr (fun e=>hne e))):P:=h
theorem zz78{P:Prop}(h:P:=by
 obtain⟨h1,h2⟩:=zcb h;exact⟨h1,by omega,by omega,by omega⟩):P:=h
theorem zz79{P:Prop}(h:P:=by
 cases e:zm h 64 with
 |false=>rw [e,zzq9]at f7;have:=eq_of_beq f7;omega
 |true=>rw [e]at h5;have:=zcb (show wi x.to ((i:Int)+1) ((u.code.length:Int)-1)=true from h5.2);omega):P:=h
theorem zz80{P:Prop}(h:P:=by
 have:=Nat.two_pow_add_eq_or_of_lt (i:=8) (b:=c) (by omega) n;rw [show(2^8:Nat)=256 from rfl]at this;rw [this]):P:=h
theorem zz82{P:Prop}(h:P:=by
 rw [hx]at HB HD;go_wp2_with (go_at_call 173;refine HB.out.mono ?_;rintro e w1 ⟨rfl,hg⟩);exact⟨rfl,by rw [<-HQ.out,HD.out];exact⟨rfl,hg⟩⟩):P:=h
theorem zz81{P:Prop}(h:P:=by
 rw [hy]at HB1 HD;go_wp2_with (go_at_call 173;refine HB1.out.mono ?_;rintro e w2 ⟨rfl,hg2⟩);exact⟨rfl,by rw [<-HQ.out,HD.out];exact⟨rfl,zk hg hg2⟩⟩):P:=h
theorem zzq0:type_of% @Option.bind_some.{0,0}:=@Option.bind_some
theorem zz83{P:Prop}(h:P:=by
 exact absurd h (by simp)):P:=h
theorem zzX0:type_of% (And.intro @Option.some.injEq.{0} @Prod.mk.injEq.{0,0}):=And.intro @Option.some.injEq.{0} @Prod.mk.injEq.{0,0}
theorem zz84{P:Prop}(h:P:=by
 clear cc;go_wp2_with (go_at_call 173;refine HB1.out.mono ?_;rintro e w2 ⟨rfl,hr2,hg2⟩)
 all_goals go_wp2_with (go_at_call 152;refine(zco _ _).mono ?_;rintro e w2 ⟨rfl,rfl⟩)
 all_goals exact⟨rfl,by rw [<-HQ.out,HD.out];exact⟨rfl,zk hg hg2⟩⟩):P:=h
theorem zz85{P:Prop}(h:P:=by
 clear c8 hU2;go_wp2_with (go_at_call 152;refine(zco _ _).mono ?_;rintro e w4 ⟨rfl,rfl⟩);exact⟨rfl,by rw [<-HQ.out,HD.out];exact⟨rfl,HG2.out⟩⟩):P:=h
theorem zz86{P:Prop}(h:P:=by
 have:=zi0 l (256*0+c.toNat);rw [Nat.mul_zero,Nat.zero_add]at this;show l.foldl (fun n c=>256*n+c.toNat) (256*0+c.toNat)=_;rw [Nat.mul_zero,Nat.zero_add];exact this):P:=h
abbrev zzO:=@Option.bind_eq_some_iff
theorem zz87{P:Prop}(h:P:=by
 obtain⟨h1,h2,h3,h4,h5,h6,h7,h8⟩:=zfJ hz
 conv=>lhs;rw [zfr t]
 rw [hk,h4 (by omega),h5 (by omega),h6 (by omega),h7 (by omega),h8 (by omega)];rfl):P:=h
theorem zz88{P:Prop}(h:P:=by
 obtain⟨h1,h2,h3,h4,h5,h6,h7,h8⟩:=zfJ hz
 conv=>lhs;rw [zfr t]
 rw [hk,h1 (by omega),h2 (by omega),h3 (by omega),h4 (by omega),h5 (by omega),h7 (by omega),h8 (by omega)];rfl):P:=h
theorem zz89{P:Prop}(h:P:=by
 split at h
 ·next c=>simp only [Option.some.injEq]at h;omega
 ·exact absurd h (by simp)):P:=h
theorem zz92{P:Prop}(h:P:=by
 exact⟨⟨zfI (by unfold I64;omega) (by unfold I64;omega) (by unfold I64;omega) (zzZ _) (zzZ _) (by unfold I64;omega) (zzZ _) (zzZ _) (by unfold I64;omega),no⟩,zzL _,hp,by omega⟩):P:=h
theorem zz91{P:Prop}(h:P:=by
 have e2:=zjs H (ts:=y.1.1) (p':=y.1.2) (l':=y.2) hy hp (by omega);exact⟨⟨zfI (by unfold I64;omega) (by unfold I64;omega) (by unfold I64;omega) (zzZ _) (zzZ _) (by unfold I64;omega) (by unfold maxLen;omega) (zzZ _) (by unfold I64;omega),e2.1⟩,e2.2.2.1,e2.2.2.2.1,by omega⟩):P:=h
theorem zz93{P:Prop}(h:P:=by
 exact⟨⟨zfI (by unfold I64;omega) (by unfold I64;omega) (by unfold I64;omega) (zzZ _) (zzZ _) (by unfold I64;omega) (zzZ _) (by omega) (by unfold I64;omega),no⟩,zzL _,hp,by omega⟩):P:=h
theorem zz90{P:Prop}(h:P:=by
 have e3:=zcy (n:=z.1) (l2:=z.2) hz;have e4:=zcy (n:=q.1) (l2:=q.2) hq;exact⟨⟨zfI (by unfold I64;omega) (by unfold I64;omega) (by unfold I64;omega) (by unfold maxLen;omega) (zzZ _) (by unfold I64;omega) (zzZ _) (zzZ _) (by unfold I64;omega),no⟩,zzL _,hp,by omega⟩):P:=h
theorem zz94{P:Prop}(h:P:=by
 exact⟨rfl,by rw [<-HQ.out,HD.out];exact⟨rfl,zcP _ _⟩⟩):P:=h
theorem zz95{P:Prop}(h:P:=by
 obtain⟨xs0,ho0,-⟩:=hacc.own;exact ho0.lt):P:=h
theorem zzX5:type_of% (And.intro @Option.bind_some.{0,0} (And.intro @List.append_assoc.{0} (And.intro @List.cons_append.{0} @List.nil_append.{0}))):=And.intro @Option.bind_some.{0,0} (And.intro @List.append_assoc.{0} (And.intro @List.cons_append.{0} @List.nil_append.{0}))
theorem zz96{P:Prop}(h:P:=by
 have x:=zzF w (.cells zC 55);go_in;go_upto_region 1 with fail;have hb:Below w.heap.size w (w.alloc (.cells zC 55)):=zzE _ _;unfold zC at x hb;generalize w.alloc _=w1 at *;obtain⟨x0,x1,x2,x3,x4,x5,x6,x7,x8,y0,y1,y2,y3,y4,y5,y6,y7,y8⟩:=zg x;go_wp2_with fail;refine zzj (results_cell_row rfl _ _ w.heap.size _ _ _ _ rfl (zcq _ _ _ _ _ _ _ _ _ x) Tryz.underlying55 rfl (by kernel_rfl)) rfl ?_;exact⟨rfl,zch (zzL _) hb _ _ _ _ _ _ _ _ _⟩):P:=h
theorem zz98{P:Prop}(h:P:=by
 rw [h1]at H1 HD;go_wp2_with (go_at_call 180;refine H1.mono ?_;rintro e v1 ⟨rfl,hg1⟩);exact⟨rfl,by rw [<-HQ.out,HD.out];exact⟨rfl,zk S0.gr hg1⟩⟩):P:=h
theorem zz97{P:Prop}(h:P:=by
 rw [h3]at H3 HD;go_wp2_with (go_at_call 173;refine H3.mono ?_;rintro e v3 ⟨rfl,hg3⟩);exact⟨rfl,by rw [<-HQ.out,HD.out];exact⟨rfl,zk S2s.gr hg3⟩⟩):P:=h
theorem zz99{P:Prop}(h:P:=by
 exact⟨rfl,by rw [<-HQ.out,HD.out];exact⟨rfl,zk S3.gr hg4⟩⟩):P:=h
theorem zz100{P:Prop}(h:P:=by
 rw [h1]at H1 HD;go_wp2_with (go_at_call 173;refine H1.mono ?_;rintro e v1 ⟨rfl,hg1⟩);exact⟨rfl,by rw [<-HQ.out,HD.out];exact⟨rfl,zk S0.gr hg1⟩⟩):P:=h
theorem zz206{P:Prop}(h:P:=by
 exact⟨rfl,by rw [<-HQ.out,HD.out];exact⟨rfl,zk S0.gr hg1⟩⟩):P:=h
theorem zz101{P:Prop}(h:P:=by
 rw [h2]at H2 HD;go_wp2_with (go_at_call 177;refine H2.mono ?_;rintro e v2 ⟨rfl,hg2⟩);exact⟨rfl,by rw [<-HQ.out,HD.out];exact⟨rfl,zk S1.gr hg2⟩⟩):P:=h
theorem zz102{P:Prop}(h:P:=by
 rw [h2]at H2 HD;go_wp2_with (go_at_call 178;refine H2.mono ?_;rintro e v2 ⟨rfl,hg2⟩);exact⟨rfl,by rw [<-HQ.out,HD.out];exact⟨rfl,zk S1.gr hg2⟩⟩):P:=h
theorem zz103{P:Prop}(h:P:=by
 rw [h1]at H1 HD;go_wp2_with (go_at_call 175;refine H1.mono ?_;rintro e v1 ⟨rfl,hg1⟩);exact⟨rfl,by rw [<-HQ.out,HD.out];exact⟨rfl,zk S0.gr hg1⟩⟩):P:=h
theorem zz105{P:Prop}(h:P:=by
 exact⟨rfl,by rw [<-HQ.out,HD.out];exact⟨rfl,zk S1.gr hg2⟩⟩):P:=h
theorem zz104{P:Prop}(h:P:=by
 go_wp2_with (go_at_call 173;refine H2.mono ?_;rintro e v2 ⟨rfl,hr2,hg2⟩);go_wp2_with (go_at_call 152;refine(zco _ _).mono ?_;rintro e d2 ⟨rfl,rfl⟩);exact⟨rfl,by rw [<-HQ.out,HD.out];exact⟨rfl,zk S1.gr hg2⟩⟩):P:=h
theorem zz106{P:Prop}(h:P:=by
 exact⟨rfl,by rw [<-HQ.out,HD.out];exact⟨rfl,zk S2.gr hg3⟩⟩):P:=h
theorem zz107{P:Prop}(h:P:=by
 clear cc;go_wp2_with (first|(go_at_call 152;refine(zW _ _).mono ?_;rintro e d1 ⟨rfl,rfl⟩)|(go_at_call 174;refine(zh5 _ _).mono ?_;rintro e t1 ⟨rfl,hb⟩;have S9:=S1.below hb;clear S1 hb;obtain⟨x0,x1,x2,x3,x4,x5,x6,x7,x8,y0,y1,y2,y3,y4,y5,y6,y7,y8⟩:=zg S9.x));refine zzj (results_cell_row rfl _ _ w.heap.size _ _ _ _ rfl (zcq _ _ _ _ _ _ _ _ _ S9.x) Tryz.underlying55 rfl (by kernel_rfl)) rfl ?_;rw [<-HQ.out,HD.out];exact⟨⟨none,0,rfl,none,0,rfl,.inl rfl⟩,(S9.fin _ _ _ _ _ _ _ _ _).1,(S9.fin _ _ _ _ _ _ _ _ _).2⟩):P:=h
theorem zz110{P:Prop}(h:P:=by
 rw [if_pos c]at h;obtain⟨x,hx,h⟩:=zzO.1 h;simp only [zzX0]at h;obtain⟨⟨rfl,rfl⟩,rfl⟩:=h;rfl):P:=h
theorem zz112{P:Prop}(h:P:=by
 simp only [zzX0]at h;obtain⟨⟨rfl,rfl⟩,rfl⟩:=h;rfl):P:=h
theorem zz109{P:Prop}(h:P:=by
 rw [if_pos c]at h;obtain⟨x,hx,h⟩:=zzO.1 h;obtain⟨y,hy,h⟩:=zzO.1 h;simp only [zzX0]at h;obtain⟨⟨rfl,rfl⟩,rfl⟩:=h;rfl):P:=h
theorem zz108{P:Prop}(h:P:=by
 rw [if_pos c]at h;obtain⟨x,hx,h⟩:=zzO.1 h;obtain⟨y,hy,h⟩:=zzO.1 h;simp only [zzX0]at h;obtain⟨⟨rfl,rfl⟩,rfl⟩:=h;exact zkw H hy):P:=h
theorem zz111{P:Prop}(h:P:=by
 obtain⟨q,hq,h⟩:=zzO.1 h;simp only [zzX0]at h;obtain⟨⟨rfl,rfl⟩,rfl⟩:=h;rfl):P:=h
theorem zz113{P:Prop}(h:P:=by
 go_wp2_with fail;go_meet
 case rel=>exact⟨p,zzH (by rw [HP.out];rfl),by omega,HWp,HBp,HSp⟩):P:=h
theorem zz114{P:Prop}(h:P:=by
 go_wp2_with fail;go_meet
 case rel=>exact⟨p',HZ,by omega,HWk,HBk,HSk⟩):P:=h
theorem zz116{P:Prop}(h:P:=by
 rw [ByteArray.data_extract,Array.toList_extract,List.extract_eq_take_drop,hl,List.take_of_length_le (by rw [List.length_drop];omega)]):P:=h
theorem zz115{P:Prop}(h:P:=by
 clear c2 c3;generalize acc+128^i*c=nn at *;go_wp2_with fail;rw [<-HQ.out,HD.out];exact⟨rfl,⟨_,zzS w r 0 _ _ _ hr,HX.out,HSX.out⟩,zc1 _ _ _ _⟩):P:=h
theorem zz117{P:Prop}(h:P:=by
 rw [h1]at HN HD;go_wp2_with (go_at_call 53;refine HN.mono ?_;rintro e w1 ⟨rfl,hg1⟩);exact⟨rfl,by rw [<-HQ.out,HD.out];exact⟨rfl,hg1⟩⟩):P:=h
theorem zz118{P:Prop}(h:P:=by
 obtain⟨ao,cap,rfl,hsl⟩:=hacc.sl;have HS:=zzH hsl;clear hsl;go_wp2_with fail;rw [<-HQ.out,HI.out];exact⟨⟨_,_,by rw [List.append_nil],by rw [List.append_nil];exact HS.out⟩,hrd,hg⟩):P:=h
theorem zz120{P:Prop}(h:P:=by
 exact⟨rfl,by rw [<-HQ.out,HI.out,zdF,h2];exact⟨rfl,zk hg hg2⟩⟩):P:=h
theorem zz119{P:Prop}(h:P:=by
 obtain⟨s,h1,h2⟩:=hr2.below hb1;exact⟨s,(hg3.block r (zc h1) fun e=>by have:=(ho0 r e.symm).1;omega).trans h1,h2⟩):P:=h
theorem zz122{P:Prop}(h:P:=by
 rw [h1]at H1;rw [show zbs l=(vD l).bind fun x=>some ((x.1:Int),x.2)from rfl,h1]at HD;go_wp2_with (go_at_call 53;refine H1.mono ?_;rintro e v1 ⟨rfl,hg1⟩);exact⟨rfl,by rw [<-HQ.out,HD.out];exact⟨rfl,zk S0.gr hg1⟩⟩):P:=h
theorem zz121{P:Prop}(h:P:=by
 rw [h2]at H2;rw [show zbs l1=(vD l1).bind fun x=>some ((x.1:Int),x.2)from rfl,h2]at HD;go_wp2_with (go_at_call 53;refine H2.mono ?_;rintro e v2 ⟨rfl,hg2⟩);exact⟨rfl,by rw [<-HQ.out,HD.out];exact⟨rfl,zk S1.gr hg2⟩⟩):P:=h
theorem zz123{P:Prop}(h:P:=by
 rw [h1]at H1 HD;go_wp2_with (go_at_call 52;refine H1.mono ?_;rintro e v1 ⟨rfl,hg1⟩);exact⟨rfl,by rw [<-HQ.out,HD.out];exact⟨rfl,zk S0.gr hg1⟩⟩):P:=h
theorem zz127{P:Prop}(h:P:=by
 exact⟨rfl,by rw [<-HQ.out,HD.out];exact⟨rfl,zk S.gr hg5⟩⟩):P:=h
theorem zz125{P:Prop}(h:P:=by
 rw [zhx,zzq0]at HD;go_wp2_with fail;go_meet
 case rel=>exact⟨[],_,HD,HS⟩):P:=h
theorem zz126{P:Prop}(h:P:=by
 rw [zhx,zzq0]at HD;go_wp2_with fail;go_meet
 case rel=>exact⟨0,_,HD,HS⟩):P:=h
theorem zz124{P:Prop}(h:P:=by
 rw [h2]at H;rw [show zbs l=(vD l).bind fun x=>some ((x.1:Int),x.2)from rfl,h2]at HD;go_wp2_with (go_at_call 53;refine H.mono ?_;rintro e v5 ⟨rfl,hg5⟩);exact⟨rfl,by rw [<-HQ.out,HD.out];exact⟨rfl,zk S.gr hg5⟩⟩):P:=h
theorem zz129{P:Prop}(h:P:=by
 refine leaves_cons (f:=51) (args:=#[.pointer (some ⟨X,0,none⟩),.pointer (some ⟨X+1,0,none⟩)]) (by simp) (by simp [go_sem]) ?_;refine(zha X _ _ _ _ _ _ _ [] _ (hO.grown hg5)).mono ?_;rintro e u' w'' ⟨rfl,rfl,hO9,hB9⟩;simp only [settle,List.dropWhile_nil];refine⟨_,zeb rfl _ _ _ X _ _ _ rfl rfl hO9 Tryz.underlying27 (by kernel_rfl) (zdp hO9.e),?_⟩;rw [<-HQ.out];refine⟨by rw [HN.out],?_⟩;rw [HX.out];exact Below.trans (zcR S.bel hg5 (by omega) (by omega)) hB9):P:=h
theorem zz128{P:Prop}(h:P:=by
 have hO10:=hO9.six (.string ⟨#[]⟩) (.int .i64 0) (.slice none 0 0) (.slice none 0 0) (.slice none 0 0) (.slice none 0 0) (.int .i64 6);have hB10:Below X w _:=(ziM hB9 (.string ⟨#[]⟩) (.int .i64 0) (.slice none 0 0) (.slice none 0 0) (.slice none 0 0) (.slice none 0 0)).setCell (p:=⟨X+1,0,none⟩) (show X<=X+1 by omega) (.int .i64 6);go_wp2_with fail;clear q0 q1 q2 q3 q4 q5 z0 z1 z2 z3 z4 z5 k1 f1 hO9 hB9;generalize World.setCell _ ⟨X+1,0,none⟩ _=w10 at *;refine leaves_cons (f:=51) (args:=#[.pointer (some ⟨X,0,none⟩),.pointer (some ⟨X+1,0,none⟩)]) (by simp) (by simp [go_sem]) ?_;refine(zkN _ _ _).mono ?_;rintro e u' w'' ⟨rfl,rfl,rfl⟩;simp only [settle];refine⟨_,zeb rfl _ _ _ X _ _ _ rfl rfl hO10 Tryz.underlying27 (by kernel_rfl) (zdp hO10.e),?_⟩;rw [<-HQ.out];exact⟨by rw [HN.out];exact rfl,by rw [HX.out];exact hB10⟩):P:=h
theorem zz130{P:Prop}(h:P:=by
 go_wp2_with fail
 all_goals go_ret
 all_goals exact⟨zcQ E.out.symm,hB.alloc hB.size _⟩):P:=h
theorem zz131{P:Prop}(h:P:=by
 go_wp2_with fail
 all_goals go_ret
 all_goals exact⟨_,rfl,HBA.out,fun e=>by cases e⟩):P:=h
theorem zz133{P:Prop}(h:P:=by
 go_in;go_wp2_with fail;refine HC.out.mono ?_;rintro e w1 ⟨rfl,g1,g2,g3⟩;go_wp2_with fail;refine(HC2.out _ g1).mono ?_;rintro e w2 ⟨rfl,k1,k2,k3⟩;have HF:Hid (WtAt B b T w2/\Below B w w2/\StaysE w w2):=zzH ⟨by rw [HT.out];exact k1,g2.trans k2,g3.trans k3⟩;clear g1 g2 g3 k1 k2 k3;go_wp2_with fail;go_end0;exact⟨rfl,HF.out⟩):P:=h
theorem zz132{P:Prop}(h:P:=by
 cases f with
 |zero=>exact absurd hm (by simp;omega)
 |succ f=>
  have HV2:Hid (A=(xs++ [UInt8.ofNat m])++leN f (m/256)):=zzH (by
    rw [HV.out];conv=>lhs;rw [leN,if_neg (by omega)]
    simp)
  have hbyte:=zmi m;have HBY:=zzH hbyte;have hgt:decide ((0:Int)<(m:Int))=true:=zzT (by omega);clear hbyte;have hsz0:=hB.size;go_wp2_with (at_builtin;refine wpList_append_own_at _ rfl (.tmp 17) (.tmp 20) 65 rfl w.heap.size 5 i0 (.int .u8 0) 1 1 Tryz.underlying65 hi hz0 hz1 hz2 rfl (by decide) _ xs.length (zo xs) rfl (hown.alloc _) ⟨wr.heap.size,0,none⟩ 1 1 [.int .u8 ((m:Int)%256)] rfl rfl (cell_one_new _ _ _) (ints_oneCell .u8 [(m:Int)%256]) (by unfold maxLen;omega) (by omega) (by simp;omega) ?_);intro v' w1 hown' hgrow hnil hloc;rw [HBY.out]at hown';have hB1:Below w.heap.size w w1:=(hB.alloc hsz0 _).grown hgrow (by simp;omega) (fun k hk=>(hown.lt k hk).1);have HO1:Hid (w1.ownsRow w.heap.size 5 1 v' (xs++ [UInt8.ofNat m]).length (zo (xs++ [UInt8.ofNat m]))):=zzH (by rw [zeg,zzq1];exact hown');clear hown' hgrow hnil hloc hown HO;go_wp2_with fail;go_roundw
  case rel=>exact⟨m/256,f,_,by go_num,by rw [Nat.pow_succ]at hm;omega,by rw [zzq1,List.length_singleton];omega,HV2,HO1,hB1⟩
  case measure=>simp [intOf];omega):P:=h
theorem zz135{P:Prop}(h:P:=by
 have h9:leN 8 n.natAbs= []:=HAA.out.trans (HV2.out.trans e);rw [show(8:Nat)=7+1 by rfl,leN,if_neg (by omega)]at h9
 cases h9):P:=h
theorem zz134{P:Prop}(h:P:=by
 clear hc2 hg1' q1 q2 q3 q4;go_wp2_with fail;refine HC2.out.mono ?_;rintro e w2 ⟨rfl,z1,z2,z3,-⟩;have HF2:=zzH (HF.out w2 z1 z2 z3);clear z1 z2 z3;go_wp2_with fail;go_end0;exact⟨rfl,HF2.out⟩):P:=h
theorem zz139{P:Prop}(h:P:=by
 have E:Hid (zw s=false):=zzH (zgi (by omega));go_in;go_wp2;go_ret;exact⟨zn E.out.symm,rfl⟩):P:=h
theorem zz138{P:Prop}(h:P:=by
 have E:Hid (zw s=false):=zzH (HB.out (by rw [HZ.out];exact zzD (by omega)));go_in;go_wp2;go_ret;exact⟨zn E.out.symm,rfl⟩):P:=h
theorem zz137{P:Prop}(h:P:=by
 have e4:decide ((48:Int)<=(b:Int))=true:=zzT (by omega);have e5:decide ((b:Int)<=57)=false:=zzD (by omega);have e6:((b:Int)!=95)=true:=by rw [bne_iff_ne];omega
 have e7:((b:Int)!=64)=true:=by rw [bne_iff_ne];omega
 have HN2:=zzH (HN.out (by rw [HP.out];exact zzT (by omega)));clear hc HP HBK HN;go_wp2_with fail;go_round
 case rel=>exact⟨k+1,by omega,by omega,by go_num,HN2⟩
 case measure=>simp [intOf];omega):P:=h
theorem zz208{P:Prop}(h:P:=by
 have e7:((b:Int)!=64)=true:=by rw [bne_iff_ne];omega
 have HN2:=zzH (HN.out (by rw [HP.out];exact zzT (by omega)));clear hc HP HBK HN;go_wp2_with fail;go_round
 case rel=>exact⟨k+1,by omega,by omega,by go_num,HN2⟩
 case measure=>simp [intOf];omega):P:=h
theorem zz136{P:Prop}(h:P:=by
 have e2:decide ((65:Int)<=(b:Int))=true:=zzT (by omega);have e3:decide ((b:Int)<=90)=false:=zzD (by omega);have e4:decide ((48:Int)<=(b:Int))=true:=zzT (by omega);have e5:decide ((b:Int)<=57)=false:=zzD (by omega);have e6:((b:Int)!=95)=true:=by rw [bne_iff_ne];omega
 have e7:((b:Int)!=64)=true:=by rw [bne_iff_ne];omega
 have E:Hid (zw s=false):=zzH (HBK.out (by rw [HP.out];exact zzD (by omega)));clear hc HP HBK HN;go_wp2;go_ret;exact⟨zn E.out.symm,rfl⟩):P:=h
theorem zz207{P:Prop}(h:P:=by
 have e6:((b:Int)!=95)=true:=by rw [bne_iff_ne];omega
 have e7:((b:Int)!=64)=true:=by rw [bne_iff_ne];omega
 have E:Hid (zw s=false):=zzH (HBK.out (by rw [HP.out];exact zzD (by omega)));clear hc HP HBK HN;go_wp2;go_ret;exact⟨zn E.out.symm,rfl⟩):P:=h
theorem zz140{P:Prop}(h:P:=by
 go_wp2;go_ret;exact⟨zn E.out.symm,rfl⟩):P:=h
theorem zz141{P:Prop}(h:P:=by
 by_cases h:a<=n
 ·by_cases h':n<=b
  ·have E:=zzH (zev h h')
   go_in;go_wp2;go_ret;exact⟨zn E.out.symm,rfl⟩
  ·have E:Hid (wi n a b=false):=zzH (zdK (by omega))
   go_in;go_wp2;go_ret;exact⟨zn E.out.symm,rfl⟩
 ·have E:Hid (wi n a b=false):=zzH (zdK (by omega))
  go_in;go_wp2;go_ret;exact⟨zn E.out.symm,rfl⟩):P:=h
theorem zz142{P:Prop}(h:P:=by
 go_in;go_wp2;go_ret;exact⟨zn E.out.symm,HB.out⟩):P:=h
theorem zz145{P:Prop}(h:P:=by
 go_in;go_wp2_with fail;refine zzj (results_cell_row rfl _ _ (w.heap.size+1) _ _ _ _ rfl HN.out Tryz.underlying55 rfl (by kernel_rfl)) rfl ?_;exact⟨so,c,rfl,HB.out⟩):P:=h
theorem zz143{P:Prop}(h:P:=by
 have HN:=zzH (zdr w (.cells #[.int .i64 0,.int .i64 0,.int .i64 0,.string ⟨#[]⟩,.string tf,.int .i64 ta,.slice so tl.length c,.string ty,.int .i64 tz] 55) (.cells #[.int .i64 0,.int .i64 0,.int .i64 0,.string ⟨#[]⟩,.string tf,.int .i64 ta,.slice so tl.length c,.string ty,.int .i64 tz] 55));have HB:Hid (Below w.heap.size w ((w.alloc (.cells #[.int .i64 0,.int .i64 0,.int .i64 0,.string ⟨#[]⟩,.string tf,.int .i64 ta,.slice so tl.length c,.string ty,.int .i64 tz] 55)).alloc (.cells #[.int .i64 0,.int .i64 0,.int .i64 0,.string ⟨#[]⟩,.string tf,.int .i64 ta,.slice so tl.length c,.string ty,.int .i64 tz] 55))):=zzH ((zzE _ _).alloc (by simp) _);go_in;go_wp2_with fail;refine zzj (results_cell_row rfl _ _ (w.heap.size+1) _ _ _ _ rfl HN.out Tryz.underlying55 rfl (by kernel_rfl)) rfl ?_;exact⟨so,c,rfl,HB.out⟩):P:=h
theorem zz144{P:Prop}(h:P:=by
 have HN:=zzH (zdr w (.cells #[.int .i64 0,.int .i64 ti,.int .i64 tg,.string tn,.string tf,.int .i64 ta,.slice none 0 0,.string ty,.int .i64 tz] 55) (.cells #[.int .i64 0,.int .i64 ti,.int .i64 tg,.string tn,.string tf,.int .i64 ta,.slice none 0 0,.string ty,.int .i64 tz] 55));have HB:Hid (Below w.heap.size w ((w.alloc (.cells #[.int .i64 0,.int .i64 ti,.int .i64 tg,.string tn,.string tf,.int .i64 ta,.slice none 0 0,.string ty,.int .i64 tz] 55)).alloc (.cells #[.int .i64 0,.int .i64 ti,.int .i64 tg,.string tn,.string tf,.int .i64 ta,.slice none 0 0,.string ty,.int .i64 tz] 55))):=zzH ((zzE _ _).alloc (by simp) _);go_in;go_wp2_with fail;refine zzj (results_cell_row rfl _ _ (w.heap.size+1) _ _ _ _ rfl HN.out Tryz.underlying55 rfl (by kernel_rfl)) rfl ?_;exact⟨none,0,rfl,HB.out⟩):P:=h
theorem zz146{P:Prop}(h:P:=by
 have E:Hid (zcf y z=false):=zzH (by unfold zcf;rw [zdK (by omega)];rfl);go_in;go_wp2;go_ret;exact⟨zn E.out.symm,HB.out⟩):P:=h
theorem zz148{P:Prop}(h:P:=by
 unfold zj at hform;rw [zzq6]at hform;have:=hform.1;unfold zcm at this;rw [zzq6]at this;exact zmg this.1):P:=h
theorem zz149{P:Prop}(h:P:=by
 have:300+t.items.length<=zG (f+1) t:=by show 300+t.items.length<=300+t.items.length+zbR (t.items.map (zG f));omega
 omega):P:=h
theorem zz150{P:Prop}(h:P:=by
 have:((300+t.items.length+zbR (t.items.map (zG f)):Nat):Int)<=1152921504606846976:=hcap;omega):P:=h
theorem zz147{P:Prop}(h:P:=by
 obtain⟨k,s,hk,rfl,rfl,HK,hs0,hs1,HBk⟩:=hrel;rename World=>wr
 clear c0 c6 c8;have hb1:=(HBk.out.block B (zc HBX.out)).trans HBX.out;have hlb1:=zc hb1;have c6:wr.cell? ⟨B,6,none⟩=some (.slice so t.items.length c):=by rw [zzq2 _ _ _ _ _ _ hb1];rfl
 clear hb1;by_cases hlt:k<t.items.length
 ·obtain⟨b2,off,ai,ci,hao,hb2,q0,q1,q2,q3,q4,q5,q6,q7,q8,hcall,hsd,hw0,hws⟩:=HREC.out k s wr hlt HBk.out HK.out
  subst hao;have HCL:=zzH hcall;have HSD:=zzH hsd;clear hcall hsd;generalize t.items[k]=u at *;generalize zt f u=wu at *;go_wp2_with fail;refine HCL.out.mono ?_;rintro e9 w5 ⟨rfl,hb5⟩;go_wp2_with fail;go_roundw
  case rel=>exact⟨k+1,s+wu,by omega,by go_num,rfl,HSD,by omega,by omega,zzH (zd HBk.out hb5)⟩
  case measure=>simp [intOf];omega
 ·have E:Hid (TV=s):=zzH (by rw [HK.out,zzq8 (by omega)];show s+0=s;omega)
  go_wp2;go_ret;exact⟨zcQ E.out.symm,by rw [HBZ.out];exact HFIN.out _ HBk.out⟩):P:=h
theorem zz153{P:Prop}(h:P:=by
 rintro e w10 ⟨rfl,g1,g2,g3⟩;have HS:=zzH (HS.out.next g1 g2 g3);clear g1 g2 g3 c0 c1 c2 c3 c4 c5 c6 c7 c8 hlx;go_wp2_with fail;go_meet
 case rel=>
  have HQ:=HS.out
  try simp only [zzq4]at HQ
  rw [HE.out];exact zzH HQ):P:=h
theorem zz151{P:Prop}(h:P:=by
 have HS:=zzH (HS.out.next g1 g2 g3);clear g1 g2 g3 c0 c1 c2 c3 c4 c5 c6 c7 c8 hlx;obtain⟨c0,c1,c2,c3,c4,c5,c6,c7,c8,cz⟩:=zg HS.out.box;have hlx:=zc HS.out.box;clear cz;go_wp2_with fail
 first|go_region_held3 (fun w'=>w'.cell? ⟨X,7,none⟩=some (.string t.bytes)) (first|exact c79|exact c7)
  ((go_at_call 25;refine(zjz _ b _ t.bytes _ (HS.out.at'.below (zzR _ _).drew) (by first|omega|(simp [zi];omega))).mono ?_;rintro e w9 ⟨rfl,g1,g2,g3⟩;have HS9:=zzH ((HS.out.below (zzR _ _).drew).next g1 g2 g3);have c79:=(zg HS9.out.box).2.2.2.2.2.2.2.1))|fail
 clear g1 g2 g3 c0 c1 c2 c3 c4 c5 c6 c7 c8 hlx c79;go_wp2_with fail;go_meet
 case rel=>
  have HQ:=HS9.out
  try simp only [zzq4]at HQ
  rw [HE.out];exact zzH HQ):P:=h
theorem zz152{P:Prop}(h:P:=by
 rintro e w13 ⟨rfl,g1,g2,g3⟩;have HS:=zzH (HS.out.next g1 g2 g3);clear g1 g2 g3 c0 c1 c2 c3 c4 c5 c6 c7 c8 hlx;obtain⟨c0,c1,c2,c3,c4,c5,c6,c7,c8,cz⟩:=zg HS.out.box;have hlx:=zc HS.out.box;clear cz;go_wp2_with fail;refine(zcM _ b _ t.gen 4 _ HS.out.at' ok2 (by omega) (by first|omega|(simp [zi,zh];done)|(simp [zi,zh];omega))).mono ?_;rintro e w14 ⟨rfl,g1,g2,g3⟩;have HS:=zzH (HS.out.next g1 g2 g3);clear g1 g2 g3 c0 c1 c2 c3 c4 c5 c6 c7 c8 hlx;go_wp2_with fail;go_meet
 case rel=>
  have HQ:=HS.out
  try simp only [zzq4]at HQ
  rw [HE.out];exact zzH HQ):P:=h
theorem zz154{P:Prop}(h:P:=by
 rintro e w13 ⟨rfl,g1,g2,g3⟩;have HS:=zzH (HS.out.next g1 g2 g3);clear g1 g2 g3 c0 c1 c2 c3 c4 c5 c6 c7 c8 hlx;go_wp2_with fail;go_meet
 case rel=>
  have HQ:=HS.out
  try simp only [zzq4]at HQ
  rw [HE.out];exact zzH HQ):P:=h
theorem zz155{P:Prop}(h:P:=by
 go_in;go_wp2;go_ret;exact⟨zn E.out.symm,HB.out⟩):P:=h
theorem zz156{P:Prop}(h:P:=by
 have E:Hid (zbi u.lits.length ⟨1,an⟩=false):=zzH (zdK (n:=an) (by omega));go_in;go_wp2;go_ret;exact⟨zn E.out.symm,HB.out⟩):P:=h
theorem zz157{P:Prop}(h:P:=by
 have E:Hid (zbi u.lits.length ⟨2,an⟩=false):=zzH (zdK (n:=an) (by omega));go_in;go_wp2;go_ret;exact⟨zn E.out.symm,HB.out⟩):P:=h
theorem zz158{P:Prop}(h:P:=by
 have E:Hid (zbi u.lits.length ⟨3,an⟩=false):=zzH (zdK (n:=an) (by omega));go_in;go_wp2;go_ret;exact⟨zn E.out.symm,HB.out⟩):P:=h
theorem zz159{P:Prop}(h:P:=by
 have E:Hid (r=true):=zzH (by rw [HQ.out];rfl);go_in;go_wp2;go_ret;exact⟨zn E.out.symm,rfl⟩):P:=h
theorem zz160{P:Prop}(h:P:=by
 go_in;go_wp2_with (first|(go_at_call 124;refine(zll _ _ _ _ (by decide)).mono ?_;rintro e w1 ⟨rfl,hb1⟩;have hk:=zkQ hb1)|(refine wpList_store_row rfl 148 _ _ rfl _ _ rfl rfl 148 _ hk (by kernel_rfl) rfl (RRow.one _) ?_));go_wp2_with fail;refine zzj (zT rfl _ _ _ w.heap.size _ _ _ _ rfl (setRow_heap _ _ _ _ _ _ hk) Tryz.underlying148 (by kernel_rfl)) rfl ?_;exact⟨rfl,below_setRow ((zzE _ _).trans (hb1.mono (by simp))) (zzL _) _⟩):P:=h
theorem zz161{P:Prop}(h:P:=by
 go_in;go_wp2_with fail;refine zzj (zT rfl _ _ _ w.heap.size _ _ _ _ rfl (zzF _ _) Tryz.underlying148 (by kernel_rfl)) rfl ?_;exact⟨rfl,zzE _ _⟩):P:=h
theorem zz163{P:Prop}(h:P:=by
 go_wp2_with fail;go_meet
 case rel=>exact⟨p,rfl,HV2,by omega,HS⟩):P:=h
theorem zz162{P:Prop}(h:P:=by
 go_wp2_with fail;go_meet
 case rel=>exact⟨p2,rfl,HV4,by omega,HS⟩):P:=h
theorem zz165{P:Prop}(h:P:=by
 go_in;go_wp2_with fail;refine HC.out.mono ?_;rintro e w1 ⟨v,rfl,ho1,hb1⟩;have HB1:Hid (Below w.heap.size w w1):=zzH (HB.out.trans (hb1.mono (by simp)));have HO1:=zzH (zii HO.out hb1);obtain⟨g,cap,cur,rfl,hg1,hg2,hg3⟩:=zbk ho1 (by intro e;have:=congrArg List.length e;rw [zi]at this;cases this);have HN:=zzH (zbq hg2 hg3);have hl4:=zi 4 n;rw [hl4];have HLE:Hid ((beN 4 n).length=4):=zzH hl4;have hsz:w.heap.size<=w1.heap.size:=HB1.out.size;clear ho1 hb1 hg1 hg2 hg3 hl4;go_wp2_with (at_builtin;refine wpList_append_own_at _ rfl (.tmp 21) (.tmp 23) 65 rfl w.heap.size 5 i0 (.int .u8 0) 1 1 Tryz.underlying65 hi hz0 hz1 hz2 rfl (by decide) _ 1 (zo [98]) rfl HO1.out ⟨g,0,none⟩ 4 cap (zo (beN 4 n)) rfl (by rw [zbf,HLE.out]) HN.out (zbl _) (by unfold maxLen;omega) (by omega) hsz ?_);intro v' w2 hown' hgrow hnil hloc;have HF:Hid (w2.ownsRow w.heap.size 5 1 v' E.length (zo E)/\Below w.heap.size w w2):=zzH ⟨by rw [HE.out];show World.ownsRow _ _ _ _ _ ((beN 4 n).length+1) _;rw [HLE.out];exact hown',HB1.out.grown hgrow hsz (fun k hk=>(HO1.out.lt k hk).1)⟩;clear hown' hgrow hnil hloc;go_wp2;go_ret;exact⟨_,rfl,HF.out⟩):P:=h
theorem zz164{P:Prop}(h:P:=by
 cases f with
 |zero=>exact absurd hm (by simp;omega)
 |succ f=>
  have HV2:Hid (A=(xs++ [UInt8.ofNat m])++leN f (m/256)):=zzH (by
    rw [HV.out];conv=>lhs;rw [leN,if_neg (by omega)]
    simp)
  have HBY:Hid ((m:Int)%256=((UInt8.ofNat m).toNat:Int)):=zzH (zmi m);have hgt:decide ((0:Int)<(m:Int))=true:=zzT (by omega);go_wp2_with (at_builtin;refine wpList_append_own_at _ rfl (.tmp 33) (.tmp 37) 65 rfl w.heap.size 5 i0 (.int .u8 0) 1 1 Tryz.underlying65 hi hz0 hz1 hz2 rfl (by decide) _ xs.length (zo xs) rfl (hown.alloc _) ⟨wr.heap.size,0,none⟩ 1 1 [.int .u8 ((m:Int)%256)] rfl rfl (cell_one_new _ _ _) (ints_oneCell .u8 [(m:Int)%256]) (by unfold maxLen;omega) (by omega) (by simp;omega) ?_);intro v' w1 hown' hgrow hnil hloc;rw [HBY.out]at hown';have hB1:Below w.heap.size w w1:=(hB.alloc hsz0 _).grown hgrow (by simp;omega) (fun k hk=>(hown.lt k hk).1);have HO1:Hid (w1.ownsRow w.heap.size 5 1 v' (xs++ [UInt8.ofNat m]).length (zo (xs++ [UInt8.ofNat m]))):=zzH (by rw [zeg,zzq1];exact hown');clear hown' hgrow hnil hloc hown HO;go_wp2_with fail;go_roundw
  case rel=>exact⟨m/256,f,_,by go_num,by rw [Nat.pow_succ]at hm;omega,by omega,by rw [zzq1,List.length_singleton];omega,HV2,HO1,hB1⟩
  case measure=>simp [intOf];omega):P:=h
theorem zz169{P:Prop}(h:P:=by
 clear ho hb;go_wp2;go_ret;exact⟨_,rfl,by rw [HCE.out,HXZ.out];exact HF.out.1,by rw [HXZ.out];exact HF.out.2⟩):P:=h
theorem zz168{P:Prop}(h:P:=by
 go_wp2_with fail;go_meet
 case rel=>
  have HQ:=HS.out
  try simp only [zzq4]at HQ
  rw [HE.out];exact zzH HQ):P:=h
theorem zz166{P:Prop}(h:P:=by
 clear c0 c1 c2 c3 c4 c5 c6 c7 c8 hlx;obtain⟨c0,c1,c2,c3,c4,c5,c6,c7,c8,cz⟩:=zg HS.out.bx.box;have hlx:=zc HS.out.bx.box;clear cz;go_wp2_with (at_builtin;refine Lib.wpList_append_own_string _ rfl (.tmp 61) (.tmp 63) 65 9 rfl X 5 i0 Tryz.underlying65 Tryz.underlying9 hi hz0 hz1 hz2 _ _ _ rfl HS.out.own t.bytes rfl (by unfold maxLen;first|omega|(simp [zi,zh];done)|(simp [zi,zh];omega)) (by first|omega|(simp [zi,zh];done)|(simp [zi,zh];omega)) HS.out.bx.ge ?_);intro v' wz hown' hgrow hnil;have HS:=zzH (HS.out.app (l2:=t.bytes.data.toList) hown' hgrow (by rw [Array.length_toList];rfl) rfl);clear hown' hgrow hnil;go_wp2;go_ret;have HQ:=HS.out
 try simp only [zzq4]at HQ
 exact⟨_,rfl,by rw [HCE.out,HE.out,HXZ.out];exact HQ.own,by rw [HXZ.out];exact HQ.bx.bel⟩):P:=h
theorem zz167{P:Prop}(h:P:=by
 clear hown' hgrow hnil hloc;clear HN;go_wp2;go_ret;have HQ:=HS.out
 try simp only [zzq4]at HQ
 exact⟨_,rfl,by rw [HCE.out,HE.out,HXZ.out];exact HQ.own,by rw [HXZ.out];exact HQ.bx.bel⟩):P:=h
theorem zzc9{w:World}{B:Nat}{v0 v1 v2 v3 v4 v5 v6 v7 v8:Value}{l:List Value}{T:Nat}{o:Nat×Nat}(h:w.heap[B]?=some (.cells (v0::v1::v2::v3::v4::v5::v6::v7::v8::l).toArray T o)):w.cell? ⟨B,0,none⟩=some v0/\w.cell? ⟨B,1,none⟩=some v1/\w.cell? ⟨B,2,none⟩=some v2/\w.cell? ⟨B,3,none⟩=some v3/\w.cell? ⟨B,4,none⟩=some v4/\w.cell? ⟨B,5,none⟩=some v5/\w.cell? ⟨B,6,none⟩=some v6/\w.cell? ⟨B,7,none⟩=some v7/\w.cell? ⟨B,8,none⟩=some v8:=⟨zzq2 w B 0 _ _ _ h,zzq2 w B 1 _ _ _ h,zzq2 w B 2 _ _ _ h,zzq2 w B 3 _ _ _ h,zzq2 w B 4 _ _ _ h,zzq2 w B 5 _ _ _ h,zzq2 w B 6 _ _ _ h,zzq2 w B 7 _ _ _ h,zzq2 w B 8 _ _ _ h⟩
theorem zz170{P:Prop}(h:P:=by
 obtain⟨k,hk,rfl,HK,HBk⟩:=hrel;rename World=>wr
 clear c0 c1 c2 c3 c4 c5 c6 c7 c8;have hb1:=(HBk.out.block B (zc HBX.out)).trans HBX.out;have hlb1:=zc hb1;obtain ⟨c0,c1,c2,c3,c4,c5,c6,c7,c8⟩:=zzc9 hb1;clear hb1;by_cases hlt:k<t.items.length
 ·obtain⟨b2,off,ai,ci,hao,hb2,q0,q1,q2,q3,q4,q5,q6,q7,q8,r,hcall,hsd⟩:=HREC.out k wr hlt HBk.out HK.out
  subst hao;have HCL:=zzH hcall;have HSD:=zzH hsd;clear hcall hsd;generalize t.items[k]=u at *
  cases r with
  |true=>
   go_wp2_with fail;refine HCL.out.mono ?_;rintro e9 w5 ⟨rfl,hb5⟩;go_wp2_with fail;go_roundw
   case rel=>exact⟨k+1,by omega,by go_num,zzH (by rw [HSD.out,zzq15]),zzH (zd HBk.out hb5)⟩
   case measure=>simp [intOf];omega
  |false=>
   go_wp2_with fail;refine HCL.out.mono ?_;rintro e9 w5 ⟨rfl,hb5⟩;go_wp2;go_ret;exact⟨zn (by rw [HET.out A rfl,HSD.out];cases okK t<;>rfl),by rw [HBZ.out];exact HFIN.out _ (zd HBk.out hb5)⟩
 ·have E:Hid (R=okK t):=zzH (by rw [HET.out A rfl,HK.out,zzq8 (by omega)];simp)
  have hkd:=HKD.out;have hE:=E.out;have e2:okK t=(true):=by unfold okK;simp [hkd,Bool.and_assoc]
  rw [e2]at hE;rw [hkd]at c0;clear e2 E HKD hkd;have E:=zzH hE;clear hE;go_wp2;go_ret;exact⟨zn (by rw [E.out];try simp),by rw [HBZ.out];exact HFIN.out _ HBk.out⟩):P:=h
theorem zz171{P:Prop}(h:P:=by
 obtain⟨b2,off,ai,ci,hao,hb2,q0,q1,q2,q3,q4,q5,q6,q7,q8,r,hcall,hsd⟩:=HREC.out k wr hlt HBk.out HK.out;subst hao;have HCL:=zzH hcall;have HSD:=zzH hsd;clear hcall hsd;generalize t.items[k]=u at *
 cases r with
 |true=>
  go_wp2_with fail;refine HCL.out.mono ?_;rintro e9 w5 ⟨rfl,hb5⟩;go_wp2_with fail;go_roundw
  case rel=>exact⟨k+1,by omega,by go_num,zzH (by rw [HSD.out,zzq15]),zzH (zd HBk.out hb5)⟩
  case measure=>simp [intOf];omega
 |false=>
  go_wp2_with fail;refine HCL.out.mono ?_;rintro e9 w5 ⟨rfl,hb5⟩;go_wp2;go_ret;exact⟨zn (by rw [HET.out A rfl,HSD.out];cases okK t<;>rfl),by rw [HBZ.out];exact HFIN.out _ (zd HBk.out hb5)⟩):P:=h
theorem zz172{P:Prop}(h:P:=by
 obtain⟨k,hk,rfl,HK,HBk⟩:=hrel;rename World=>wr
 clear c0 c1 c2 c3 c4 c5 c6 c7 c8;have hb1:=(HBk.out.block B (zc HBX.out)).trans HBX.out;have hlb1:=zc hb1;obtain ⟨c0,c1,c2,c3,c4,c5,c6,c7,c8⟩:=zzc9 hb1;clear hb1;by_cases hlt:k<t.items.length
 ·obtain⟨b2,off,ai,ci,hao,hb2,q0,q1,q2,q3,q4,q5,q6,q7,q8,r,hcall,hsd⟩:=HREC.out k wr hlt HBk.out HK.out
  subst hao;have HCL:=zzH hcall;have HSD:=zzH hsd;clear hcall hsd;generalize t.items[k]=u at *
  cases r with
  |true=>
   go_wp2_with fail;refine HCL.out.mono ?_;rintro e9 w5 ⟨rfl,hb5⟩;go_wp2_with fail;go_roundw
   case rel=>exact⟨k+1,by omega,by go_num,zzH (by rw [HSD.out,zzq15]),zzH (zd HBk.out hb5)⟩
   case measure=>simp [intOf];omega
  |false=>
   go_wp2_with fail;refine HCL.out.mono ?_;rintro e9 w5 ⟨rfl,hb5⟩;go_wp2;go_ret;exact⟨zn (by rw [HET.out A rfl,HSD.out];cases okK t<;>rfl),by rw [HBZ.out];exact HFIN.out _ (zd HBk.out hb5)⟩
 ·have E:Hid (R=okK t):=zzH (by rw [HET.out A rfl,HK.out,zzq8 (by omega)];simp)
  have hkd:=HKD.out;have hE:=E.out;have e2:okK t=(wi t.int 1 2147483647&&wi t.gen 1 2147483647&&zw t.name):=by unfold okK;simp [hkd,Bool.and_assoc]
  rw [e2]at hE;rw [hkd]at c0;clear e2 E HKD hkd;have h0:=fun wx=>zdC t.int 1 2147483647 wx
  have h1:=fun wx=>zdC t.gen 1 2147483647 wx
  have h2:=fun wx=>zdE t.name wx (by unfold maxLen;omega)
  generalize wi t.int 1 2147483647=b0 at *;generalize wi t.gen 1 2147483647=b1 at *;generalize zw t.name=b2 at *;have E:=zzH hE;clear hE
  cases b0 with
  |false=>
   go_wp2_with (first|(go_at_call 171;first|((with_reducible refine(h0 _).mono ?_);rintro e w9 ⟨rfl,rfl⟩)|((with_reducible refine(h1 _).mono ?_);rintro e w9 ⟨rfl,rfl⟩))|(go_at_call 121;first|((with_reducible refine(h2 _).mono ?_);rintro e w9 ⟨rfl,rfl⟩)));go_ret;exact⟨zn (by rw [E.out];try simp),by rw [HBZ.out];exact HFIN.out _ HBk.out⟩
  |true=>
   cases b1 with
   |false=>
    go_wp2_with (first|(go_at_call 171;first|((with_reducible refine(h0 _).mono ?_);rintro e w9 ⟨rfl,rfl⟩)|((with_reducible refine(h1 _).mono ?_);rintro e w9 ⟨rfl,rfl⟩))|(go_at_call 121;first|((with_reducible refine(h2 _).mono ?_);rintro e w9 ⟨rfl,rfl⟩)));go_ret;exact⟨zn (by rw [E.out];try simp),by rw [HBZ.out];exact HFIN.out _ HBk.out⟩
   |true=>
    go_wp2_with (first|(go_at_call 171;first|((with_reducible refine(h0 _).mono ?_);rintro e w9 ⟨rfl,rfl⟩)|((with_reducible refine(h1 _).mono ?_);rintro e w9 ⟨rfl,rfl⟩))|(go_at_call 121;first|((with_reducible refine(h2 _).mono ?_);rintro e w9 ⟨rfl,rfl⟩)));go_ret;exact⟨zn (by rw [E.out];try simp),by rw [HBZ.out];exact HFIN.out _ HBk.out⟩):P:=h
theorem zz173{P:Prop}(h:P:=by
 go_wp2_with (first|(go_at_call 171;first|((with_reducible refine(h2 _).mono ?_);rintro e w9 ⟨rfl,rfl⟩))|(go_at_call 121;first|((with_reducible refine(h0 _).mono ?_);rintro e w9 ⟨rfl,rfl⟩)|((with_reducible refine(h1 _).mono ?_);rintro e w9 ⟨rfl,rfl⟩)));go_ret;exact⟨zn (by rw [E.out];try simp),by rw [HBZ.out];exact HFIN.out _ HBk.out⟩):P:=h
theorem zz174{P:Prop}(h:P:=by
 go_wp2_with (first|(go_at_call 171;first|((with_reducible refine(h0 _).mono ?_);rintro e w9 ⟨rfl,rfl⟩)|((with_reducible refine(h1 _).mono ?_);rintro e w9 ⟨rfl,rfl⟩)|((with_reducible refine(h3 _).mono ?_);rintro e w9 ⟨rfl,rfl⟩))|(go_at_call 121;first|((with_reducible refine(h2 _).mono ?_);rintro e w9 ⟨rfl,rfl⟩)));go_ret;exact⟨zn (by rw [E.out];try simp<;>omega),by rw [HBZ.out];exact HFIN.out _ HBk.out⟩):P:=h
theorem zz175{P:Prop}(h:P:=by
 go_wp2_with fail;refine(HW.out (by trivial) _ HB5.out).mono ?_;rintro e w6 ⟨rfl,hb6⟩;go_wp2;go_ret;exact⟨zcQ E.out.symm,by rw [HBZ.out];exact HB5.out.trans (hb6.mono (by have:=HB5.out.size;have:=HBZ.out;omega))⟩):P:=h
theorem zz176{P:Prop}(h:P:=by
 go_wp2_with fail;go_round
 case rel=>exact⟨k+1,by omega,by go_num,rfl,rfl,HK2⟩
 case measure=>simp [intOf];omega):P:=h
theorem zz177{P:Prop}(h:P:=by
 go_in;go_wp2;go_ret;exact⟨zcQ E.out.symm,rfl⟩):P:=h
theorem zz178{P:Prop}(h:P:=by
 go_in;go_wp2_with (go_at_call 163;refine(h1 _).mono ?_;rintro e w1 ⟨rfl,rfl⟩);go_ret;exact⟨zcQ E.out.symm,HB.out _ _⟩):P:=h
theorem zz180{P:Prop}(h:P:=by
 have t1:(x.n==1)=true:=by rw [n1];rfl
 have E2:Hid (zl u.funcs.length u.funs x=true):=zzH (by rw [E.out,decide_eq_true n1];rfl);clear n1;go_in;go_upto_region 1 with fail;obtain⟨hU,hX,hBW⟩:=zbC w u lo fo go co lc fc gc cc x so co' go' sc cc' gc';generalize hWW:(w.alloc (.cells (zzu u lo lc fo fc go gc co cc) 27)).alloc (.cells (zzi x so sc co' cc' go' gc') 36)=W at *;have c0:=hX.c0;have c3:=hX.c3;have c5:=hX.c5;have b3:=hU.c3;have b4:=hU.c4;have hlu:=hU.lt;have hlx:=hX.lt;have HBW:=zzH hBW;clear hU hX hBW hWW;rw [HOP.out]at c0;go_wp2;go_ret;exact⟨zn E2.out.symm,HBW.out⟩):P:=h
theorem zz179{P:Prop}(h:P:=by
 have t1:(x.n==1)=false:=zzB.2 n1;by_cases n8:x.n=8
 ·have t2:(x.n==8)=true:=by rw [n8];rfl
  have E2:Hid (zl u.funcs.length u.funs x=true):=zzH (by rw [E.out,decide_eq_true n8];simp);clear n1 n8;go_in;go_upto_region 1 with fail;obtain⟨hU,hX,hBW⟩:=zbC w u lo fo go co lc fc gc cc x so co' go' sc cc' gc';generalize hWW:(w.alloc (.cells (zzu u lo lc fo fc go gc co cc) 27)).alloc (.cells (zzi x so sc co' cc' go' gc') 36)=W at *;have c0:=hX.c0;have c3:=hX.c3;have c5:=hX.c5;have b3:=hU.c3;have b4:=hU.c4;have hlu:=hU.lt;have hlx:=hX.lt;have HBW:=zzH hBW;clear hU hX hBW hWW;rw [HOP.out]at c0;go_wp2;go_ret;exact⟨zn E2.out.symm,HBW.out⟩
 ·have t2:(x.n==8)=false:=zzB.2 n8
  have E2:Hid (zl u.funcs.length u.funs x=false):=zzH (by rw [E.out,decide_eq_false n1,decide_eq_false n8];rfl);clear n1 n8;go_in;go_upto_region 1 with fail;obtain⟨hU,hX,hBW⟩:=zbC w u lo fo go co lc fc gc cc x so co' go' sc cc' gc';generalize hWW:(w.alloc (.cells (zzu u lo lc fo fc go gc co cc) 27)).alloc (.cells (zzi x so sc co' cc' go' gc') 36)=W at *;have c0:=hX.c0;have c3:=hX.c3;have c5:=hX.c5;have b3:=hU.c3;have b4:=hU.c4;have hlu:=hU.lt;have hlx:=hX.lt;have HBW:=zzH hBW;clear hU hX hBW hWW;rw [HOP.out]at c0;go_wp2;go_ret;exact⟨zn E2.out.symm,HBW.out⟩):P:=h
theorem zz181{P:Prop}(h:P:=by
 clear hz E2;go_in;go_upto_region 1 with fail;obtain⟨hU,hX,hBW⟩:=zbC w u lo fo go co lc fc gc cc x so co' go' sc cc' gc';generalize hWW:(w.alloc (.cells (zzu u lo lc fo fc go gc co cc) 27)).alloc (.cells (zzi x so sc co' cc' go' gc') 36)=W at *;have c0:=hX.c0;have c3:=hX.c3;have c5:=hX.c5;have b3:=hU.c3;have b4:=hU.c4;have hlu:=hU.lt;have hlx:=hX.lt;have HBW:=zzH hBW;clear hU hX hBW hWW;rw [HOP.out]at c0;obtain⟨b2,off,hao,hb2,q0,q1,q2,_,_,_⟩:=(HF.out.mono HBW.out fun _ _ h=>h).fn hml;subst hao;rw [HM.out]at c5;generalize u.funs[m].free=z at *;go_wp2_with fail;go_quiet ((go_at_call 122;exact zze (hwr _)));go_wp2;go_ret;exact⟨zn E3.out.symm,zP HBW.out _⟩):P:=h
theorem zz185{P:Prop}(h:P:=by
 go_wp2_with (go_at_call 122;refine(hwi _).mono ?_;rintro e w1 ⟨rfl,rfl⟩);go_meet
 case rel=>exact⟨_,rfl,zzH (by rw [hv.out];rfl),rfl⟩):P:=h
theorem zz186{P:Prop}(h:P:=by
 obtain rfl:n1=true:=hn1.out;go_wp2;go_ret;exact⟨zn (by rw [HE.out];rfl),by rw [HBZ.out];exact HFIN.out _ (zzR _ _)⟩):P:=h
theorem zz184{P:Prop}(h:P:=by
 go_wp2_with (go_at_call 122;refine(hwc _).mono ?_;rintro e w1 ⟨rfl,rfl⟩);go_ret;exact⟨zn E.out.symm,by rw [HBZ.out];exact HFIN.out _ HBWR.out⟩):P:=h
theorem zz182{P:Prop}(h:P:=by
 go_wp2_with fail;go_roundw
 case rel=>exact⟨k+1,by omega,by go_num,HK2,HBQ.out.trans (HB6.out.mono HBQ.out.size)⟩
 case measure=>simp [intOf];omega):P:=h
theorem zz187{P:Prop}(h:P:=by
 go_wp2;go_ret;exact⟨zn E.out.symm,by rw [HBZ.out];exact HFIN.out _ (HBQ.out.trans (HB7.out.mono HBQ.out.size))⟩):P:=h
theorem zz183{P:Prop}(h:P:=by
 go_wp2_with fail;go_roundw
 case rel=>exact⟨k+1,by omega,by go_num,HK2,HBQ.out.trans (HB7.out.mono HBQ.out.size)⟩
 case measure=>simp [intOf];omega):P:=h
theorem zz190{P:Prop}(h:P:=by
 go_wp2_with (go_at_call 121;refine(hnm _).mono ?_;rintro e w1 ⟨rfl,rfl⟩);go_meet
 case rel=>exact⟨_,rfl,E,rfl⟩):P:=h
theorem zz189{P:Prop}(h:P:=by
 have E:=zzH (HNO.out (.inl rfl));go_wp2_with (first|(go_at_call 121;refine(hn _).mono ?_;rintro e w1 ⟨rfl,rfl⟩)|(go_at_call 122;first|((with_reducible refine(hw1 _).mono ?_);rintro e w1 ⟨rfl,rfl⟩)|((with_reducible refine(hw2 _).mono ?_);rintro e w1 ⟨rfl,rfl⟩)));go_ret;exact⟨zn E.out.symm,by rw [HBZ.out];exact HFIN.out _ (HBQ.out.trans (HBX.out.mono HBQ.out.size))⟩):P:=h
theorem zz188{P:Prop}(h:P:=by
 have E:Hid (zM (f+1) u=false):=zzH (by rw [HE3.out,HK.out,HSTP.out];rfl);go_wp2_with (go_at_call 122;first|((with_reducible refine(hw1 _).mono ?_);rintro e w1 ⟨rfl,rfl⟩)|((with_reducible refine(hw2 _).mono ?_);rintro e w1 ⟨rfl,rfl⟩)|((with_reducible refine(hw3 _).mono ?_);rintro e w1 ⟨rfl,rfl⟩));go_ret;exact⟨zn E.out.symm,by rw [HBZ.out];exact HFIN.out _ (HBQ.out.trans (HBX.out.mono HBQ.out.size))⟩):P:=h
theorem zzc10{w:World}{B:Nat}{v0 v1 v2 v3 v4 v5 v6 v7 v8 v9:Value}{l:List Value}{T:Nat}{o:Nat×Nat}(h:w.heap[B]?=some (.cells (v0::v1::v2::v3::v4::v5::v6::v7::v8::v9::l).toArray T o)):w.cell? ⟨B,0,none⟩=some v0/\w.cell? ⟨B,1,none⟩=some v1/\w.cell? ⟨B,2,none⟩=some v2/\w.cell? ⟨B,3,none⟩=some v3/\w.cell? ⟨B,4,none⟩=some v4/\w.cell? ⟨B,5,none⟩=some v5/\w.cell? ⟨B,6,none⟩=some v6/\w.cell? ⟨B,7,none⟩=some v7/\w.cell? ⟨B,8,none⟩=some v8/\w.cell? ⟨B,9,none⟩=some v9:=⟨zzq2 w B 0 _ _ _ h,zzq2 w B 1 _ _ _ h,zzq2 w B 2 _ _ _ h,zzq2 w B 3 _ _ _ h,zzq2 w B 4 _ _ _ h,zzq2 w B 5 _ _ _ h,zzq2 w B 6 _ _ _ h,zzq2 w B 7 _ _ _ h,zzq2 w B 8 _ _ _ h,zzq2 w B 9 _ _ _ h⟩
theorem zz191{P:Prop}(h:P:=by
 clear hq;go_wp2_with fail;refine hop.mono ?_;rintro e9 w1 ⟨rfl,hb1⟩;clear b0 b1 b2 b3 b4 b5 c0 c1 c2 c3 c4 c5 c6 c7 c8 c9 q0 q1 q2 q3 q4 q5 q6 q7 q8 q9 hlu hlx hlr;have hU1:=HU.out.below hb1;have hX1:=HX.out.below hb1;have hR1:=(hb1.block _ (zc HRB.out)).trans HRB.out;have b0:=hU1.c0;have b1:=hU1.c1;have b2:=hU1.c2;have b3:=hU1.c3;have b4:=hU1.c4;have b5:=hU1.c5;have c0:=hX1.c0;have c1:=hX1.c1;have c2:=hX1.c2;have c3:=hX1.c3;have c4:=hX1.c4;have c5:=hX1.c5;have c6:=hX1.c6;have c7:=hX1.c7;have c8:=hX1.c8;have c9:=hX1.c9;obtain ⟨q0,q1,q2,q3,q4,q5,q6,q7,q8,q9⟩:=zzc10 hR1;have hlu:=hU1.lt;have hlx:=hX1.lt;have hlr:=zc hR1;clear hU1 hX1 hR1;go_wp2_with fail;go_meet
 case rel=>exact⟨true,rfl,E,zzH hb1⟩):P:=h
theorem zz192{P:Prop}(h:P:=by
 go_wp2;go_ret;exact⟨zn E.out.symm,by rw [HBZ.out];exact HFIN.out _ HBk.out⟩):P:=h
theorem zzX1:type_of% (And.intro @Bool.true_or (And.intro @Bool.false_or (And.intro @Bool.true_and (And.intro @Bool.and_true (And.intro @Bool.or_true @Bool.or_false))))):=And.intro @Bool.true_or (And.intro @Bool.false_or (And.intro @Bool.true_and (And.intro @Bool.and_true (And.intro @Bool.or_true @Bool.or_false))))
theorem zzX2:type_of% (And.intro @Bool.true_or (And.intro @Bool.false_or (And.intro @Bool.true_and (And.intro @Bool.and_true (And.intro @Bool.false_and (And.intro @Bool.and_false (And.intro @Bool.or_self (And.intro @Bool.or_false @Bool.or_true)))))))):=And.intro @Bool.true_or (And.intro @Bool.false_or (And.intro @Bool.true_and (And.intro @Bool.and_true (And.intro @Bool.false_and (And.intro @Bool.and_false (And.intro @Bool.or_self (And.intro @Bool.or_false @Bool.or_true)))))))
theorem zz193{P:Prop}(h:P:=by
 rcases HOP.out with rfl|rfl
 all_goals
  go_wp2_with fail;refine(HWR.out _).mono ?_;rintro e9 w1 ⟨rfl,-,rfl⟩;go_wp2;go_ret;exact⟨zn E.out.symm,by rw [HBZ.out];exact HFIN.out _ (zzR _ _)⟩):P:=h
theorem zz194{P:Prop}(h:P:=by
 clear hv HC;go_in;go_wp2_with fail;refine hn.mono ?_;rintro e w1 ⟨rfl,rfl⟩;go_wp2;go_ret;exact⟨zcQ E.out.symm,zzR _ _⟩):P:=h
theorem zz196{P:Prop}(h:P:=by
 simp only [q1]at E0
 try simp only [zzX4]at E0
 go_wp2_with fail;refine hop2.mono ?_;rintro e w2 ⟨rfl,rfl⟩;go_wp2;go_ret;exact⟨zn E0.out.symm,by rw [HBZ.out];exact HB1.out⟩):P:=h
theorem zz195{P:Prop}(h:P:=by
 simp only [t0]at E0;have t0':=zmm t0
 cases t1:(x.name.toList== [123,125])with
 |true=>
  simp only [t1]at E0
  try simp only [zzX4]at E0
  go_wp2_with fail;refine hop2.mono ?_;rintro e w2 ⟨rfl,rfl⟩;go_wp2;go_ret;exact⟨zn E0.out.symm,by rw [HBZ.out];exact HB1.out⟩
 |false=>
  simp only [t1]at E0
  cases t2:(x.name.toList== [124])with
  |true=>
   simp only [t2]at E0
   cases q2:((x.src.length:Int)==2)with
   |true=>
    simp only [q2]at E0
    try simp only [zzX4]at E0
    go_wp2_with fail;refine hop2.mono ?_;rintro e w2 ⟨rfl,rfl⟩;go_wp2;go_ret;exact⟨zn E0.out.symm,by rw [HBZ.out];exact HB1.out⟩
   |false=>
    simp only [q2]at E0
    try simp only [zzX4]at E0
    go_wp2_with fail;refine hop2.mono ?_;rintro e w2 ⟨rfl,rfl⟩;go_wp2;go_ret;exact⟨zn E0.out.symm,by rw [HBZ.out];exact HB1.out⟩
  |false=>
   simp only [t2]at E0
   try simp only [zzX4]at E0
   go_wp2_with fail;refine hop2.mono ?_;rintro e w2 ⟨rfl,rfl⟩;go_wp2;go_ret;exact⟨zn E0.out.symm,by rw [HBZ.out];exact HB1.out⟩):P:=h
theorem zz197{P:Prop}(h:P:=by
 simp only [q2]at E0
 try simp only [zzX4]at E0
 go_wp2_with fail;refine hop2.mono ?_;rintro e w2 ⟨rfl,rfl⟩;go_wp2;go_ret;exact⟨zn E0.out.symm,by rw [HBZ.out];exact HB1.out⟩):P:=h
theorem zz199{P:Prop}(h:P:=by
 try simp only [zzX4]at E0
 go_wp2_with fail;refine hop2.mono ?_;rintro e w2 ⟨rfl,rfl⟩;go_wp2_with fail;refine hc2.mono ?_;rintro e w3 ⟨rfl,hb3⟩;have c5':=(HX1.out.below hb3).c5;have c7':=(HX1.out.below hb3).c7;have hlx3:=(HX1.out.below hb3).lt;have HB3:Hid (Below B w w3):=zzH (HB1.out.trans (hb3.mono (by have:=HB1.out.size;have:=HBZ.out;omega)));clear hb3 c0 c3 c5 c7;go_wp2;go_ret;exact⟨zn E0.out.symm,by rw [HBZ.out];exact HB3.out⟩):P:=h
theorem zz198{P:Prop}(h:P:=by
 simp only [q2]at E0
 try simp only [zzX4]at E0
 go_wp2_with fail;refine hop2.mono ?_;rintro e w2 ⟨rfl,rfl⟩;go_wp2_with fail;refine hc2.mono ?_;rintro e w3 ⟨rfl,hb3⟩;have c5':=(HX1.out.below hb3).c5;have c7':=(HX1.out.below hb3).c7;have hlx3:=(HX1.out.below hb3).lt;have HB3:Hid (Below B w w3):=zzH (HB1.out.trans (hb3.mono (by have:=HB1.out.size;have:=HBZ.out;omega)));clear hb3 c0 c3 c5 c7;go_wp2;go_ret;exact⟨zn E0.out.symm,by rw [HBZ.out];exact HB3.out⟩):P:=h
theorem zz200{P:Prop}(h:P:=by
 go_wp2_with fail;go_roundw
 case rel=>exact⟨k+1,p2++A1,by omega,by go_num,congrArg Value.string (zB _ _),HV4,by rw [zzq1];omega,HB⟩
 case measure=>simp [intOf];omega):P:=h
theorem zz201{P:Prop}(h:P:=by
 go_wp2_with fail;go_roundw
 case rel=>exact⟨k+1,by omega,by go_num,HBR.out.drew.trans (hb5.mono HBR.out.size)⟩
 case measure=>simp [intOf];omega):P:=h
theorem zz202{P:Prop}(h:P:=by
 go_wp2_with fail;go_quiet (fail);go_wp2_with fail;go_roundw
 case rel=>exact⟨k+1,by omega,by go_num,zP HBR.out _⟩
 case measure=>simp [intOf];omega):P:=h
theorem zz203{P:Prop}(h:P:=by
 go_wp2_with fail;refine(ze2 _).mono ?_;rintro e wz ⟨rfl,hbz⟩;go_wp2;go_ret;exact⟨rfl,zd HBR.out hbz⟩):P:=h
theorem zz204{P:Prop}(h:P:=by
 obtain⟨a,b,rfl⟩:=zuK hl;obtain⟨y0,h0,_⟩:=hf 0 _ 3 0 1 rfl rfl rfl cI;obtain⟨y1,h1,_⟩:=hf 1 _ 3 1 1 rfl rfl rfl cI;obtain⟨n0,e0,i0⟩:=zb1 Tryz.underlying3 h0;obtain⟨n1,e1,i1⟩:=zb1 Tryz.underlying3 h1;obtain rfl:=zbp e0;obtain rfl:=zbp e1;exact⟨⟨n0,n1⟩,rfl,i0,i1⟩):P:=h
def I64 (z:Int):Prop:= -9223372036854775808<=z/\z<=9223372036854775807
instance (z:Int):Decidable (I64 z):=by unfold I64;infer_instance
theorem zn {a b:Bool} (h:a=b):Ending.returned (.bool a)= .returned (.bool b):=by rw [h]
theorem zcQ {k:IntKind} {a b:Int} (h:a=b):Ending.returned (.int k a)= .returned (.int k b):=by rw [h]
theorem wrap_i64 (z:Int):I64 (wrap64 z):=by unfold I64 wrap64;omega
def hi (y:Int) (k:Nat):Int:= -y/2^k
inductive Tm where
 |mk (kind int gen:Int) (name func:ByteArray) (arity:Int) (items:List Tm) (bytes:ByteArray) (bits:Int)
namespace Tm
def kind:Tm->Int|.mk a _ _ _ _ _ _ _ _=>a
def int:Tm->Int|.mk _ a _ _ _ _ _ _ _=>a
def gen:Tm->Int|.mk _ _ a _ _ _ _ _ _=>a
def name:Tm->ByteArray|.mk _ _ _ a _ _ _ _ _=>a
def func:Tm->ByteArray|.mk _ _ _ _ a _ _ _ _=>a
def arity:Tm->Int|.mk _ _ _ _ _ a _ _ _=>a
def items:Tm->List Tm|.mk _ _ _ _ _ _ a _ _=>a
def bytes:Tm->ByteArray|.mk _ _ _ _ _ _ _ a _=>a
def bits:Tm->Int|.mk _ _ _ _ _ _ _ _ a=>a
def Ok (t:Tm):Prop:=I64 t.kind/\I64 t.int/\I64 t.gen/\t.name.size<=maxLen/\t.func.size<=maxLen/\I64 t.arity/\t.items.length<=maxLen/\t.bytes.size<=maxLen/\I64 t.bits
end Tm
structure RArg where
 kind:Int
 n:Int
structure RCase where
 lit:Int
 «to»:Int
structure RSeg where
 type:Int
 val:RArg
 size:RArg
 little:Bool
structure RIns where
 op:Int
 dst:RArg
 src:List RArg
 «to»:Int
 n:Int
 live:Int
 name:ByteArray
 cases:List RCase
 segs:List RSeg
structure RFunc where
 name:ByteArray
 arity:Int
 pub:Bool
 entry:Int
structure RFun where
 arity:Int
 free:Int
 entry:Int
structure RUnit where
 mdl:ByteArray
 vsn:Int
 lits:List Tm
 funcs:List RFunc
 funs:List RFun
 code:List RIns
abbrev zzt(t:Tm)(a:Option Addr)(b:Nat):Array Value:=#[.int .i64 t.kind,.int .i64 t.int,.int .i64 t.gen,.string t.name,.string t.func,.int .i64 t.arity,.slice a t.items.length b,.string t.bytes,.int .i64 t.bits]
abbrev zzi(x:RIns)(a:Option Addr)(b:Nat)(c:Option Addr)(d:Nat)(e:Option Addr)(f:Nat):Array Value:=#[.int .i64 x.op,.int .i64 x.dst.kind,.int .i64 x.dst.n,.slice a x.src.length b,.int .i64 x.to,.int .i64 x.n,.int .i64 x.live,.string x.name,.slice c x.cases.length d,.slice e x.segs.length f]
abbrev zzu(u:RUnit)(a:Option Addr)(b:Nat)(c:Option Addr)(d:Nat)(e:Option Addr)(f:Nat)(g:Option Addr)(h:Nat):Array Value:=#[.string u.mdl,.int .i64 u.vsn,.slice a u.lits.length b,.slice c u.funcs.length d,.slice e u.funs.length f,.slice g u.code.length h]
abbrev zzrUt(X:World)(B:Nat)(v:RUnit)(a0:Option Addr)(b0:Nat)(a1:Option Addr)(b1:Nat)(a2:Option Addr)(b2:Nat)(a3:Option Addr)(b3:Nat):Prop:=X.cell? ⟨B,0,none⟩=some (.string v.mdl)/\X.cell? ⟨B,1,none⟩=some (.int .i64 v.vsn)/\X.cell? ⟨B,2,none⟩=some (.slice a0 v.lits.length b0)/\X.cell? ⟨B,3,none⟩=some (.slice a1 v.funcs.length b1)/\X.cell? ⟨B,4,none⟩=some (.slice a2 v.funs.length b2)/\X.cell? ⟨B,5,none⟩=some (.slice a3 v.code.length b3)
def SlAt {α:Type} (w:World) (size:Nat) (R:List Value->α->Prop) (ao:Option Addr) (l:List α):Prop:=
 l= []\/ ∃b off,ao=some ⟨b,off,none⟩/\b<w.heap.size/\ ∀j (h:j<l.length),∃cs:List Value,cs.length=size/\(∀i,i<size->w.cell? ⟨b,off+j*size+i,none⟩=cs[i]?)/\R cs l[j]
theorem SlAt.mono {α:Type} {w w':World} {size:Nat} {R R':List Value->α->Prop} {ao:zzA} {l:List α} (h:SlAt w size R ao l) (hb:Below w.heap.size w w') (hR: ∀cs a,R cs a->R' cs a):SlAt w' size R' ao l:=by
 rcases h with h|⟨b,off,e,hB,hr⟩
 ·exact .inl h
 ·refine .inr ⟨b,off,e,zzW hB hb.size,fun j hj=>?_⟩
  obtain⟨cs,hl,hc,hR'⟩:=hr j hj;exact⟨cs,hl,fun i hi=>(hb.cell (p:=⟨b,off+j*size+i,none⟩) hB).trans (hc i hi),hR _ _ hR'⟩
theorem SlAt.row {α:Type} {w:World} {size:Nat} {R:List Value->α->Prop} {ao:zzA} {l:List α} (h:SlAt w size R ao l) {k:Nat} (hk:k<l.length):
  ∃b off,ao=some ⟨b,off,none⟩/\b<w.heap.size/\ ∀j (h:j<l.length),∃cs:List Value,cs.length=size/\(∀i,i<size->w.cell? ⟨b,off+j*size+i,none⟩=cs[i]?)/\R cs l[j]:=by
 rcases h with h|h
 ·rw [h]at hk;exact absurd hk (zzC _)
 ·exact h
theorem SlAt.nil {α:Type} (w:World) (size:Nat) (R:List Value->α->Prop) (ao:zzA):SlAt w size R ao []:=.inl rfl
def TmAt (w:World):Nat->List Value->Tm->Prop
 |0,_,_=>False
 |f+1,cs,t=>(∃ao c,cs= [.int .i64 t.kind,.int .i64 t.int,.int .i64 t.gen,.string t.name,.string t.func,.int .i64 t.arity,.slice ao t.items.length c,.string t.bytes,.int .i64 t.bits]/\SlAt w 9 (TmAt w f) ao t.items)/\t.Ok
theorem TmAt.below {w w':World} (hb:Below w.heap.size w w'): ∀{f:Nat} {cs:List Value} {t:Tm},TmAt w f cs t->TmAt w' f cs t
 |0,_,_,h=>h
 |_+1,_,_,⟨⟨ao,c,e,hs⟩,ho⟩=>⟨⟨ao,c,e,hs.mono hb fun _ _ h=>TmAt.below hb h⟩,ho⟩
theorem SlAt.imp {α:Type} {w:World} {size:Nat} {R R':List Value->α->Prop} {ao:zzA} {l:List α} (h:SlAt w size R ao l) (hR: ∀cs a,R cs a->R' cs a):SlAt w size R' ao l:=
 h.elim .inl fun⟨b,off,e,hB,hr⟩=>.inr ⟨b,off,e,hB,fun j hj=>(hr j hj).elim fun cs ⟨a,b,c⟩=>⟨cs,a,b,hR _ _ c⟩⟩
theorem TmAt.succ {w:World}: ∀{f:Nat} {cs:List Value} {t:Tm},TmAt w f cs t->TmAt w (f+1) cs t
 |0,_,_,h=>h.elim
 |f+1,_,_,⟨⟨ao,c,e,hs⟩,ho⟩=>⟨⟨ao,c,e,hs.imp fun _ _ h=>TmAt.succ h⟩,ho⟩
theorem TmAt.le {w:World} {f g:Nat} (h:f<=g) {cs:List Value} {t:Tm} (ht:TmAt w f cs t):TmAt w g cs t:=by
 induction h with
 |refl=>exact ht
 |step _ ih=>exact ih.succ
def TmA (w:World) (cs:List Value) (t:Tm):Prop:= ∃f,TmAt w f cs t
theorem TmA.below {w w':World} {cs:List Value} {t:Tm} (h:TmA w cs t) (hb:Below w.heap.size w w'):TmA w' cs t:=h.elim fun f h=>⟨f,h.below hb⟩
theorem TmAt.ok {w:World}: ∀{f:Nat} {cs:List Value} {t:Tm},TmAt w f cs t->t.Ok
 |0,_,_,h=>h.elim
 |_+1,_,_,⟨_,ho⟩=>ho
def zdY (cs:List Value) (a:RArg):Prop:=cs= [.int .i64 a.kind,.int .i64 a.n]/\I64 a.kind/\I64 a.n
def zdc (cs:List Value) (a:RCase):Prop:=cs= [.int .i64 a.lit,.int .i64 a.to]/\I64 a.lit/\I64 a.to
def zdZ (cs:List Value) (a:RSeg):Prop:=cs= [.int .i64 a.type,.int .i64 a.val.kind,.int .i64 a.val.n,.int .i64 a.size.kind,.int .i64 a.size.n,.bool a.little]/\I64 a.type/\I64 a.val.kind/\I64 a.val.n/\I64 a.size.kind/\I64 a.size.n
def zd0 (cs:List Value) (a:RFunc):Prop:=cs= [.string a.name,.int .i64 a.arity,.bool a.pub,.int .i64 a.entry]/\a.name.size<=maxLen/\I64 a.arity/\I64 a.entry
def zbA (cs:List Value) (a:RFun):Prop:=cs= [.int .i64 a.arity,.int .i64 a.free,.int .i64 a.entry]/\I64 a.arity/\I64 a.free/\I64 a.entry
def InsR (w:World) (cs:List Value) (x:RIns):Prop:=
 (∃so sc co cc go gc,cs= [.int .i64 x.op,.int .i64 x.dst.kind,.int .i64 x.dst.n,.slice so x.src.length sc,.int .i64 x.to,.int .i64 x.n,.int .i64 x.live,.string x.name,.slice co x.cases.length cc,.slice go x.segs.length gc] /\
  SlAt w 2 zdY so x.src/\SlAt w 2 zdc co x.cases/\SlAt w 6 zdZ go x.segs) /\
 I64 x.op/\I64 x.dst.kind/\I64 x.dst.n/\x.src.length<=maxLen/\I64 x.to/\I64 x.n/\I64 x.live/\x.name.size<=maxLen/\x.cases.length<=maxLen/\x.segs.length<=maxLen
theorem InsR.below {w w':World} {cs:List Value} {x:RIns} (h:InsR w cs x) (hb:Below w.heap.size w w'):InsR w' cs x:=by
 obtain⟨⟨so,sc,co,cc,go,gc,e,h1,h2,h3⟩,hr⟩:=h;exact⟨⟨so,sc,co,cc,go,gc,e,h1.mono hb fun _ _ h=>h,h2.mono hb fun _ _ h=>h,h3.mono hb fun _ _ h=>h⟩,hr⟩
def UR (w:World) (cs:List Value) (u:RUnit):Prop:=
 (∃lo lc fo fc go gc co cc,cs= [.string u.mdl,.int .i64 u.vsn,.slice lo u.lits.length lc,.slice fo u.funcs.length fc,.slice go u.funs.length gc,.slice co u.code.length cc] /\
  SlAt w 9 (TmA w) lo u.lits/\SlAt w 4 zd0 fo u.funcs/\SlAt w 3 zbA go u.funs/\SlAt w 10 (InsR w) co u.code) /\
 u.mdl.size<=maxLen/\I64 u.vsn/\u.lits.length<=maxLen/\u.funcs.length<=maxLen/\u.funs.length<=maxLen/\u.code.length<=maxLen
theorem UR.below {w w':World} {cs:List Value} {u:RUnit} (h:UR w cs u) (hb:Below w.heap.size w w'):UR w' cs u:=by
 obtain⟨⟨lo,lc,fo,fc,go,gc,co,cc,e,h1,h2,h3,h4⟩,hr⟩:=h;exact⟨⟨lo,lc,fo,fc,go,gc,co,cc,e,h1.mono hb fun _ _ h=>h.below hb,h2.mono hb fun _ _ h=>h,h3.mono hb fun _ _ h=>h,h4.mono hb fun _ _ h=>h.below hb⟩,hr⟩
section
variable {H:Type} {enc:TypeId × Value->H} {P:Program} {w:World} {base:Nat} {spare:Nat->Bool} {held:Bool}
theorem zui {n:Int} (h:(Lit.int .i64 n).wf=true):I64 n:=by
 simp [Lit.wf,IntKind.min,IntKind.max,IntKind.bits,IntKind.signed]at h;unfold I64;omega
theorem zb1 {t:TypeId} {fuel:Nat} {cs:List Value} {x:DataW H × List MemPlace} (ht:P.underlying t=some (.int .i64)) (h:DataW.trod enc P w base spare held fuel t cs=some x): ∃n,cs= [.int .i64 n]/\I64 n:=by
 obtain⟨n,e,_,hw⟩:=DataW.trod_int ht h;exact⟨n,e,zui hw⟩
theorem zf1 {t:TypeId} {fuel:Nat} {cs:List Value} {x:DataW H × List MemPlace} (ht:P.underlying t=some .string) (h:DataW.trod enc P w base spare held fuel t cs=some x): ∃s,cs= [.string s]/\s.size<=maxLen:=by
 obtain⟨n,e,_,hw⟩:=DataW.trod_string ht h;exact⟨n,e,hw⟩
end
def zdd (rec:List Tm->Int->Int):List Tm->Int->Int
 |[],m=>m
 |t::l,m=>if m<0 then m else
  if m<t.name.size\/m<t.func.size\/m<t.bytes.size then -1 else
   zdd rec l (rec t.items (m-1-t.name.size/8-t.func.size/8-t.bytes.size/8))
def zbS:Nat->List Tm->Int->Int
 |0,_,m=>m
 |f+1,l,m=>zdd (zbS f) l m
theorem zh1 {rec:List Tm->Int->Int} (h: ∀l m,-1<=m-> -1<=rec l m/\rec l m<=m): ∀(l:List Tm) (m:Int),-1<=m-> -1<=zdd rec l m/\zdd rec l m<=m
 |[],m,hm=>⟨hm,Int.le_refl _⟩
 |t::l,m,hm=>by
  unfold zdd;split
  ·exact⟨hm,Int.le_refl _⟩
  ·split
   ·omega
   ·have h1:=h t.items (m-1-t.name.size/8-t.func.size/8-t.bytes.size/8) (by omega)
    have:=zh1 h l _ h1.1;omega
theorem zfR: ∀(f:Nat) (l:List Tm) (m:Int),-1<=m-> -1<=zbS f l m/\zbS f l m<=m
 |0,_,_,hm=>⟨hm,Int.le_refl _⟩
 |f+1,l,m,hm=>zh1 (zfR f) l m hm
theorem ziz {rec:List Tm->Int->Int} {l:List Tm} {m:Int} (h:l= []\/m<0):zdd rec l m=m:=by
 rcases h with rfl|h
 ·rfl
 ·cases l with
  |nil=>rfl
  |cons t l=>unfold zdd;rw [if_pos h]
theorem zgf {α:Type} {l:List α} {k:Nat} (h:k<l.length):l.drop k=l[k]::l.drop (k+1):=List.drop_eq_getElem_cons h
theorem znL {rec:List Tm->Int->Int} {l:List Tm} {k:Nat} (h:k<l.length) {m:Int} (h0:0<=m) (hl:m<l[k].name.size\/m<l[k].func.size\/m<l[k].bytes.size):zdd rec (l.drop k) m= -1:=by
 rw [zgf h,zdd,if_neg (by omega),if_pos hl]
theorem zmW {rec:List Tm->Int->Int} {l:List Tm} {k:Nat} (h:k<l.length) {m:Int} (h0:0<=m) (hl: ¬(m<l[k].name.size\/m<l[k].func.size\/m<l[k].bytes.size)):
  zdd rec (l.drop k) m=zdd rec (l.drop (k+1)) (rec l[k].items (m-1-l[k].name.size/8-l[k].func.size/8-l[k].bytes.size/8)):=by
 rw [zgf h,zdd,if_neg (by omega),if_neg hl]
def zcT (n:ByteArray) (a:Int):List RFunc->Nat->Option Nat
 |[],_=>none
 |f::l,i=>if f.name=n/\f.arity=a then some i else zcT n a l (i+1)
def zgI (n:ByteArray) (a:Int) (l:List RFunc):Int:=match zcT n a l 0 with
 |some i=>i
 |none=>0
def zhy (n:ByteArray) (a:Int) (l:List RFunc):Bool:=(zcT n a l 0).isSome
theorem zpU {n:ByteArray} {a:Int} {l:List RFunc} {k i:Nat} (h:k<l.length) (hh:l[k].name=n/\l[k].arity=a):zcT n a (l.drop k) i=some i:=by
 rw [zgf h,zcT,if_pos hh]
theorem zm4 {n:ByteArray} {a:Int} {l:List RFunc} {k i:Nat} (h:k<l.length) (hh: ¬(l[k].name=n/\l[k].arity=a)):zcT n a (l.drop k) i=zcT n a (l.drop (k+1)) (i+1):=by
 rw [zgf h,zcT,if_neg hh]
section
variable {w:World} {ao:Option Addr} {k:Nat}
theorem SlAt.tm {f:Nat} {l:List Tm} (h:SlAt w 9 (TmAt w (f+1)) ao l) (hk:k<l.length):
  ∃b off ai c,ao=some ⟨b,off,none⟩/\b<w.heap.size/\w.cell? ⟨b,off+k*9,none⟩=some (.int .i64 l[k].kind)/\w.cell? ⟨b,off+k*9+1,none⟩=some (.int .i64 l[k].int) /\
   w.cell? ⟨b,off+k*9+2,none⟩=some (.int .i64 l[k].gen)/\w.cell? ⟨b,off+k*9+3,none⟩=some (.string l[k].name)/\w.cell? ⟨b,off+k*9+4,none⟩=some (.string l[k].func) /\
   w.cell? ⟨b,off+k*9+5,none⟩=some (.int .i64 l[k].arity)/\w.cell? ⟨b,off+k*9+6,none⟩=some (.slice ai l[k].items.length c)/\w.cell? ⟨b,off+k*9+7,none⟩=some (.string l[k].bytes) /\
   w.cell? ⟨b,off+k*9+8,none⟩=some (.int .i64 l[k].bits)/\SlAt w 9 (TmAt w f) ai l[k].items/\l[k].Ok:=by
 obtain⟨b,off,e,hb,hr⟩:=h.row hk;obtain⟨cs,_,hc,⟨ai,c,rfl,hs⟩,ho⟩:=hr k hk;exact⟨b,off,ai,c,e,hb,hc 0 (by decide),hc 1 (by decide),hc 2 (by decide),hc 3 (by decide),hc 4 (by decide),hc 5 (by decide),hc 6 (by decide),hc 7 (by decide),hc 8 (by decide),hs,ho⟩
theorem SlAt.arg {l:List RArg} (h:SlAt w 2 zdY ao l) (hk:k<l.length):
  ∃b off,ao=some ⟨b,off,none⟩/\b<w.heap.size/\w.cell? ⟨b,off+k*2,none⟩=some (.int .i64 l[k].kind)/\w.cell? ⟨b,off+k*2+1,none⟩=some (.int .i64 l[k].n)/\I64 l[k].kind/\I64 l[k].n:=by
 obtain⟨b,off,e,hb,hr⟩:=h.row hk;obtain⟨cs,_,hc,rfl,h1,h2⟩:=hr k hk;exact⟨b,off,e,hb,hc 0 (by decide),hc 1 (by decide),h1,h2⟩
theorem SlAt.case {l:List RCase} (h:SlAt w 2 zdc ao l) (hk:k<l.length):
  ∃b off,ao=some ⟨b,off,none⟩/\b<w.heap.size/\w.cell? ⟨b,off+k*2,none⟩=some (.int .i64 l[k].lit)/\w.cell? ⟨b,off+k*2+1,none⟩=some (.int .i64 l[k].to)/\I64 l[k].lit/\I64 l[k].to:=by
 obtain⟨b,off,e,hb,hr⟩:=h.row hk;obtain⟨cs,_,hc,rfl,h1,h2⟩:=hr k hk;exact⟨b,off,e,hb,hc 0 (by decide),hc 1 (by decide),h1,h2⟩
theorem SlAt.seg {l:List RSeg} (h:SlAt w 6 zdZ ao l) (hk:k<l.length):
  ∃b off,ao=some ⟨b,off,none⟩/\b<w.heap.size/\w.cell? ⟨b,off+k*6,none⟩=some (.int .i64 l[k].type)/\w.cell? ⟨b,off+k*6+1,none⟩=some (.int .i64 l[k].val.kind)/\w.cell? ⟨b,off+k*6+2,none⟩=some (.int .i64 l[k].val.n) /\
   w.cell? ⟨b,off+k*6+3,none⟩=some (.int .i64 l[k].size.kind)/\w.cell? ⟨b,off+k*6+4,none⟩=some (.int .i64 l[k].size.n)/\w.cell? ⟨b,off+k*6+5,none⟩=some (.bool l[k].little) /\
   I64 l[k].type/\I64 l[k].val.kind/\I64 l[k].val.n/\I64 l[k].size.kind/\I64 l[k].size.n:=by
 obtain⟨b,off,e,hb,hr⟩:=h.row hk;obtain⟨cs,_,hc,rfl,h1⟩:=hr k hk;exact⟨b,off,e,hb,hc 0 (by decide),hc 1 (by decide),hc 2 (by decide),hc 3 (by decide),hc 4 (by decide),hc 5 (by decide),h1⟩
theorem SlAt.func {l:List RFunc} (h:SlAt w 4 zd0 ao l) (hk:k<l.length):
  ∃b off,ao=some ⟨b,off,none⟩/\b<w.heap.size/\w.cell? ⟨b,off+k*4,none⟩=some (.string l[k].name)/\w.cell? ⟨b,off+k*4+1,none⟩=some (.int .i64 l[k].arity)/\w.cell? ⟨b,off+k*4+2,none⟩=some (.bool l[k].pub) /\
   w.cell? ⟨b,off+k*4+3,none⟩=some (.int .i64 l[k].entry)/\l[k].name.size<=maxLen/\I64 l[k].arity/\I64 l[k].entry:=by
 obtain⟨b,off,e,hb,hr⟩:=h.row hk;obtain⟨cs,_,hc,rfl,h1⟩:=hr k hk;exact⟨b,off,e,hb,hc 0 (by decide),hc 1 (by decide),hc 2 (by decide),hc 3 (by decide),h1⟩
theorem SlAt.fn {l:List RFun} (h:SlAt w 3 zbA ao l) (hk:k<l.length):
  ∃b off,ao=some ⟨b,off,none⟩/\b<w.heap.size/\w.cell? ⟨b,off+k*3,none⟩=some (.int .i64 l[k].arity)/\w.cell? ⟨b,off+k*3+1,none⟩=some (.int .i64 l[k].free)/\w.cell? ⟨b,off+k*3+2,none⟩=some (.int .i64 l[k].entry) /\
   I64 l[k].arity/\I64 l[k].free/\I64 l[k].entry:=by
 obtain⟨b,off,e,hb,hr⟩:=h.row hk;obtain⟨cs,_,hc,rfl,h1⟩:=hr k hk;exact⟨b,off,e,hb,hc 0 (by decide),hc 1 (by decide),hc 2 (by decide),h1⟩
theorem SlAt.ins {l:List RIns} (h:SlAt w 10 (InsR w) ao l) (hk:k<l.length):
  ∃b off so sc co cc go gc,ao=some ⟨b,off,none⟩/\b<w.heap.size/\w.cell? ⟨b,off+k*10,none⟩=some (.int .i64 l[k].op)/\w.cell? ⟨b,off+k*10+1,none⟩=some (.int .i64 l[k].dst.kind)/\w.cell? ⟨b,off+k*10+2,none⟩=some (.int .i64 l[k].dst.n) /\
   w.cell? ⟨b,off+k*10+3,none⟩=some (.slice so l[k].src.length sc)/\w.cell? ⟨b,off+k*10+4,none⟩=some (.int .i64 l[k].to)/\w.cell? ⟨b,off+k*10+5,none⟩=some (.int .i64 l[k].n)/\w.cell? ⟨b,off+k*10+6,none⟩=some (.int .i64 l[k].live) /\
   w.cell? ⟨b,off+k*10+7,none⟩=some (.string l[k].name)/\w.cell? ⟨b,off+k*10+8,none⟩=some (.slice co l[k].cases.length cc)/\w.cell? ⟨b,off+k*10+9,none⟩=some (.slice go l[k].segs.length gc) /\
   SlAt w 2 zdY so l[k].src/\SlAt w 2 zdc co l[k].cases/\SlAt w 6 zdZ go l[k].segs /\
   I64 l[k].op/\I64 l[k].dst.kind/\I64 l[k].dst.n/\l[k].src.length<=maxLen/\I64 l[k].to/\I64 l[k].n/\I64 l[k].live/\l[k].name.size<=maxLen/\l[k].cases.length<=maxLen/\l[k].segs.length<=maxLen:=by
 obtain⟨b,off,e,hb,hr⟩:=h.row hk;obtain⟨cs,_,hc,⟨so,sc,co,cc,go,gc,rfl,s1,s2,s3⟩,h1⟩:=hr k hk;exact⟨b,off,so,sc,co,cc,go,gc,e,hb,hc 0 (by decide),hc 1 (by decide),hc 2 (by decide),hc 3 (by decide),hc 4 (by decide),hc 5 (by decide),hc 6 (by decide),hc 7 (by decide),hc 8 (by decide),hc 9 (by decide),s1,s2,s3,h1⟩
end
theorem zd {w a b:World} (h:Below w.heap.size w a) (k:Below a.heap.size a b):Below w.heap.size w b:=h.trans (k.mono h.size)
theorem zP {B:Nat} {a w:World} (h:Below B a w) (n:Nat):Below B a (w.drewN n):=⟨h.os,h.tape,h.output,h.size,h.block⟩
theorem SlAt.zero {w:World} {ao:zzA} {l:List Tm} (h:SlAt w 9 (TmAt w 0) ao l):l= []:=by
 rcases h with h|⟨b,off,e,hb,hr⟩
 ·exact h
 ·cases l with
  |nil=>rfl
  |cons t l=>
   obtain⟨cs,_,_,hf⟩:=hr 0 (by simp);exact hf.elim
theorem SlAt.tms {w w':World} {f:Nat} {ao:zzA} {l:List Tm} (h:SlAt w 9 (TmAt w f) ao l) (hb:Below w.heap.size w w'):SlAt w' 9 (TmAt w' f) ao l:=h.mono hb fun _ _ h=>h.below hb
theorem zjp {w:World} {ao:zzA} {l:List Tm} (h:SlAt w 9 (TmA w) ao l): ∃f,SlAt w 9 (TmAt w f) ao l:=by
 rcases h with h|⟨b,off,e,hb,hr⟩
 ·exact⟨0,.inl h⟩
 ·have: ∀m,m<=l.length-> ∃f,∀j (hj:j<l.length),j<m-> ∃cs:List Value,cs.length=9/\(∀i,i<9->w.cell? ⟨b,off+j*9+i,none⟩=cs[i]?)/\TmAt w f cs l[j]:=by
   intro m
   induction m with
   |zero=>exact fun _=>⟨0,fun j _ h=>absurd h (zzC _)⟩
   |succ m ih=>
    intro hm;obtain⟨f,hf⟩:=ih (by omega);obtain⟨cs,h1,h2,g,h3⟩:=hr m (by omega);refine⟨max f g,fun j hj hjm=>?_⟩;by_cases e:j=m
    ·subst e;exact⟨cs,h1,h2,TmAt.le (Nat.le_max_right _ _) h3⟩
    ·obtain⟨cs',a1,a2,a3⟩:=hf j hj (by omega)
     exact⟨cs',a1,a2,TmAt.le (Nat.le_max_left _ _) a3⟩
  obtain⟨f,hf⟩:=this l.length (zzL _);exact⟨f,.inr ⟨b,off,e,hb,fun j hj=>hf j hj hj⟩⟩
theorem zoL {k:IntKind} {a b:Int} {c d:Bool} (h:a=b) (h':c=d):Ending.returned (.tuple #[.int k a,.bool c])= .returned (.tuple #[.int k b,.bool d]):=by rw [h,h']
theorem zc {w:World} {C:Nat} {o:Obj} (h:w.heap[C]?=some o):C<w.heap.size:=(Array.getElem?_eq_some_iff.1 h).1
def wi (n a b:Int):Bool:=decide (a<=n)&&decide (n<=b)
theorem zev {n a b:Int} (h:a<=n) (h':n<=b):wi n a b=true:=by unfold wi;rw [decide_eq_true h,decide_eq_true h'];rfl
theorem zdK {n a b:Int} (h: ¬(a<=n/\n<=b)):wi n a b=false:=by
 unfold wi;by_cases h1:a<=n
 ·rw [decide_eq_true h1,decide_eq_false (fun h2=>h ⟨h1,h2⟩)];rfl
 ·rw [decide_eq_false h1];rfl
theorem zT {fn:Func} {p u:Tmp} {ty:TypeId} (h:fn.results=#[.cell p ty,.tmp u]) (tmps:Array Value) (P:Program) (w:World) (g:Nat) (t:TypeId) (cs:Array Value) (fr:Nat × Nat) (fs:Array Field)
  (hp:tmps.getD p undef= .pointer (some ⟨g,0,none⟩)) (hg:w.heap[g]?=some (.cells cs t fr))
  (hu:P.underlying ty=some (.struct fs)) (hi:(P.info? ty).map (·.size)=some cs.size):
  (results fn tmps).run P w= .ok (.tuple #[.agg cs,tmps.getD u undef]) w:=by
 have hl:=run_loadVar_row w g t ty cs fr (.struct fs) hg hu rfl hi;rw [results_cell_tmp h,hp];simp [asAddr,hl,Result.andThen]
def opTwo:List (List UInt8):=[[43],[42],[100,105,118],[114,101,109],[98,97,110,100],[98,111,114],[98,120,111,114],[98,115,108],[98,115,114],[97,110,100],[111,114],[120,111,114],[61,58,61],[61,47,61],[60],[61,60],[62],[62,61],[43,43]]
def zN (s:ByteArray) (n:Int):Bool:=
 if s.toList== [45]then n==1||n==2 else if s.toList== [98,110,111,116]||s.toList== [110,111,116]then n==1 else if opTwo.any (fun x=>s.toList==x)then n==2 else false
def zbd (i b:Nat):Bool:=decide (97<=b/\b<=122\/0<i/\(65<=b/\b<=90\/48<=b/\b<=57\/b=95\/b=64))
def zw (s:ByteArray):Bool:=decide (0<s.size)&&decide (s.size<=32)&&decide (∀i,(h:i<s.size)->zbd i s[i].toNat=true)
theorem zhs {s:ByteArray} {i:Nat} (h:i<s.size) (e:zbd i s[i].toNat=false):zw s=false:=by
 unfold zw
 have:decide (∀i,(h:i<s.size)->zbd i s[i].toNat=true)=false:=by
  apply zzD;intro hh;have:=hh i h;rw [e]at this;simp at this
 rw [this,Bool.and_false]
theorem zit {s:ByteArray} (h0:0<s.size) (h1:s.size<=32) (h: ∀i,(h:i<s.size)->zbd i s[i].toNat=true):zw s=true:=by
 unfold zw;rw [decide_eq_true h0,decide_eq_true h1,decide_eq_true h];rfl
theorem zjr {i b:Nat} (h:123<=b):zbd i b=false:=by unfold zbd;apply zzD;omega
theorem zgi {s:ByteArray} (h: ¬(0<s.size/\s.size<=32)):zw s=false:=by
 unfold zw;by_cases h0:0<s.size
 ·rw [decide_eq_false (p:=s.size<=32) (by omega),Bool.and_false,Bool.false_and]
 ·rw [decide_eq_false h0,Bool.false_and,Bool.false_and]
theorem zsv (s:ByteArray) (pos:Nat) (hp:pos<s.size):zbd pos (Utf8.decode s pos).1=zbd pos s[pos].toNat/\(zbd pos s[pos].toNat=true->(Utf8.decode s pos).2=1):=by
 by_cases ha:s[pos].toNat<128
 ·rw [decode_ascii s pos hp ha];exact⟨rfl,fun _=>rfl⟩
 ·have h:=(decode_high s pos hp (by omega)).1
  rw [zjr (by omega),zjr (by omega)];exact⟨rfl,fun e=>by simp at e⟩
theorem zdJ (w:World) (s:ByteArray) (pos:Nat):Below w.heap.size w (w.iter s pos):=zzE _ _
theorem zd6 (s:ByteArray) (w:World):Calls Tryz.prog 109 #[.string s] w fun e w'=>e= .returned (.bool (zw s))/\Below w.heap.size w w':=by
 have HL:Hid (¬(0<s.size/\s.size<=32)->zw s=false):=zzH zgi;by_cases hs0:s.size=0
 ·have he:s=ByteArray.empty:=by
   have h:s.data.size=0:=hs0;exact ByteArray.ext (Array.eq_empty_of_size_eq_zero h)
  subst he;have HV:Hid (zw ByteArray.empty=false):=zzH (zgi (by simp));clear HL;go_in;go_wp2;go_ret;exact⟨zn HV.out.symm,zzR _ _⟩
 ·have hne: ¬s.toList= []:=by
   rw [zzq14];intro e;have h2:=congrArg List.length e;exact hs0 (by simpa using h2)
  have hne2:s.toList.isEmpty=false:=by cases h:s.toList with|nil=>exact absurd h hne|cons _ _=>rfl
  by_cases hs1:32<s.size
  ·have HV:Hid (zw s=false):=zzH (zgi (by omega))
   have g1:decide ((32:Int)<(s.size:Int))=true:=by simp;omega
   clear HL;go_in;go_wp2;go_ret;exact⟨zn HV.out.symm,zzR _ _⟩
  ·have g1:decide ((32:Int)<(s.size:Int))=false:=by simp;omega
   clear HL;go_in;go_wp2_with fail;go_loopw [] (fun wr=> ∃pos:Nat,pos<=s.size/\wr=w.iter s pos/\Hid (∀i,(h:i<s.size)->i<pos->zbd i s[i].toNat=true)) (fun wr=>s.size-wr.iterPos w.heap.size)
   case atStart=>exact⟨0,zzZ _,rfl,zzH (fun i _ h=>absurd h (zzC _))⟩
   case round=>
    obtain⟨pos,hpl,rfl,HG⟩:=hrel;by_cases hp:pos<s.size
    ·have hnx: ∀ty,(Instr.next (.pointer (some ⟨w.heap.size,0,none⟩)) true ty).run Tryz.prog (w.iter s pos)=_:=fun ty=>run_next_any w s pos ty hp
     have HR:=zzH (zsv s pos hp);have HB:Hid (zbd pos s[pos].toNat=false->zw s=false):=zzH (zhs hp)
     have HK:Hid (zbd pos s[pos].toNat=true->(∀i,(h:i<s.size)->i<pos+1->zbd i s[i].toNat=true)):=zzH (fun e i h h1=>by
      rcases Nat.lt_or_ge i pos with h2|h2
      ·exact HG.out i h h2
      ·obtain rfl:i=pos:=by omega
       exact e)
     generalize(Utf8.decode s pos).1=c at *;generalize(Utf8.decode s pos).2=d at *;by_cases r8:97<=c/\c<=122
     ·have hc:97<=c/\c<=122:=by omega
      have q0:decide ((97:Int)<=(c:Int))=true:=by simp;omega
      have q1:decide ((c:Int)<=122)=true:=by simp;omega
      have q2:decide ((65:Int)<=(c:Int))=true:=by simp;omega
      have q3:decide ((c:Int)<=90)=false:=by simp;omega
      have q4:decide ((48:Int)<=(c:Int))=true:=by simp;omega
      have q5:decide ((c:Int)<=57)=false:=by simp;omega
      have q6:((c:Int)==95)=false:=by simp;omega
      have q7:((c:Int)==64)=false:=by simp;omega
      have hok:Hid (zbd pos c=true):=zzH (by unfold zbd;apply zzT;omega);have hok2:Hid (zbd pos s[pos].toNat=true):=zzH (by rw [<-HR.out.1];exact hok.out);obtain rfl:=HR.out.2 hok2.out;have HG2:=zzH (HK.out hok2.out);clear HG HK HB HR hok hok2;go_wp2_with fail;go_roundw
      case rel=>exact⟨_,by omega,rfl,HG2⟩
      case measure=>simp;omega
     ·by_cases hz:pos=0
      ·obtain rfl:=hz
       by_cases r10:c<=47
       ·have hc:0<=c/\c<=47:=by omega
        have q0:decide ((97:Int)<=(c:Int))=false:=by simp;omega
        have q1:decide ((c:Int)<=122)=true:=by simp;omega
        have q2:decide ((65:Int)<=(c:Int))=false:=by simp;omega
        have q3:decide ((c:Int)<=90)=true:=by simp;omega
        have q4:decide ((48:Int)<=(c:Int))=false:=by simp;omega
        exact zz24
       ·by_cases r11:c<=57
        ·have hc:48<=c/\c<=57:=by omega
         have q0:decide ((97:Int)<=(c:Int))=false:=by simp;omega
         have q1:decide ((c:Int)<=122)=true:=by simp;omega
         have q2:decide ((65:Int)<=(c:Int))=false:=by simp;omega
         have q3:decide ((c:Int)<=90)=true:=by simp;omega
         have q4:decide ((48:Int)<=(c:Int))=true:=by simp;omega
         exact zz24
        ·by_cases r12:c<=63
         ·have hc:58<=c/\c<=63:=by omega
          have q0:decide ((97:Int)<=(c:Int))=false:=by simp;omega
          have q1:decide ((c:Int)<=122)=true:=by simp;omega
          have q2:decide ((65:Int)<=(c:Int))=false:=by simp;omega
          exact zz22
         ·by_cases r13:c<=64
          ·have hc:64<=c/\c<=64:=by omega
           obtain rfl:c=64:=by omega
           have hok:Hid (zbd 0 64=false):=zzH (by unfold zbd;apply zzD;omega);exact zz25
          ·by_cases r14:c<=90
           ·have hc:65<=c/\c<=90:=by omega
            have q0:decide ((97:Int)<=(c:Int))=false:=by simp;omega
            have q1:decide ((c:Int)<=122)=true:=by simp;omega
            have q2:decide ((65:Int)<=(c:Int))=true:=by simp;omega
            exact zz22
           ·by_cases r15:c<=94
            ·have hc:91<=c/\c<=94:=by omega
             have q0:decide ((97:Int)<=(c:Int))=false:=by simp;omega
             have q1:decide ((c:Int)<=122)=true:=by simp;omega
             exact zz21
            ·by_cases r16:c<=95
             ·have hc:95<=c/\c<=95:=by omega
              obtain rfl:c=95:=by omega
              have hok:Hid (zbd 0 95=false):=zzH (by unfold zbd;apply zzD;omega);exact zz25
             ·by_cases r17:c<=96
              ·have hc:96<=c/\c<=96:=by omega
               obtain rfl:c=96:=by omega
               have hok:Hid (zbd 0 96=false):=zzH (by unfold zbd;apply zzD;omega);exact zz25
              ·have hc:123<=c:=by omega
               have q0:decide ((97:Int)<=(c:Int))=true:=by simp;omega
               have q1:decide ((c:Int)<=122)=false:=by simp;omega
               exact zz21
      ·by_cases r10:c<=47
       ·have hc:0<=c/\c<=47:=by omega
        have q0:decide ((97:Int)<=(c:Int))=false:=by simp;omega
        have q1:decide ((c:Int)<=122)=true:=by simp;omega
        have q2:decide ((65:Int)<=(c:Int))=false:=by simp;omega
        have q3:decide ((c:Int)<=90)=true:=by simp;omega
        have q4:decide ((48:Int)<=(c:Int))=false:=by simp;omega
        have q5:decide ((c:Int)<=57)=true:=by simp;omega
        exact zz205
       ·by_cases r11:c<=57
        ·have hc:48<=c/\c<=57:=by omega
         have q0:decide ((97:Int)<=(c:Int))=false:=by simp;omega
         have q1:decide ((c:Int)<=122)=true:=by simp;omega
         have q2:decide ((65:Int)<=(c:Int))=false:=by simp;omega
         have q3:decide ((c:Int)<=90)=true:=by simp;omega
         have q4:decide ((48:Int)<=(c:Int))=true:=by simp;omega
         have q5:decide ((c:Int)<=57)=true:=by simp;omega
         exact zz23
        ·by_cases r12:c<=63
         ·have hc:58<=c/\c<=63:=by omega
          have q0:decide ((97:Int)<=(c:Int))=false:=by simp;omega
          have q1:decide ((c:Int)<=122)=true:=by simp;omega
          have q2:decide ((65:Int)<=(c:Int))=false:=by simp;omega
          have q3:decide ((c:Int)<=90)=true:=by simp;omega
          have q4:decide ((48:Int)<=(c:Int))=true:=by simp;omega
          have q5:decide ((c:Int)<=57)=false:=by simp;omega
          exact zz205
         ·by_cases r13:c<=64
          ·have hc:64<=c/\c<=64:=by omega
           obtain rfl:c=64:=by omega
           have q9:decide ((0:Int)<(pos:Int))=true:=by simp;omega
           have hok:Hid (zbd pos 64=true):=zzH (by unfold zbd;apply zzT;omega);exact zz26
          ·by_cases r14:c<=90
           ·have hc:65<=c/\c<=90:=by omega
            have q0:decide ((97:Int)<=(c:Int))=false:=by simp;omega
            have q1:decide ((c:Int)<=122)=true:=by simp;omega
            have q2:decide ((65:Int)<=(c:Int))=true:=by simp;omega
            have q3:decide ((c:Int)<=90)=true:=by simp;omega
            have q4:decide ((48:Int)<=(c:Int))=true:=by simp;omega
            have q5:decide ((c:Int)<=57)=false:=by simp;omega
            exact zz23
           ·by_cases r15:c<=94
            ·have hc:91<=c/\c<=94:=by omega
             have q0:decide ((97:Int)<=(c:Int))=false:=by simp;omega
             have q1:decide ((c:Int)<=122)=true:=by simp;omega
             exact zz20
            ·by_cases r16:c<=95
             ·have hc:95<=c/\c<=95:=by omega
              obtain rfl:c=95:=by omega
              have q9:decide ((0:Int)<(pos:Int))=true:=by simp;omega
              have hok:Hid (zbd pos 95=true):=zzH (by unfold zbd;apply zzT;omega);exact zz26
             ·by_cases r17:c<=96
              ·have hc:96<=c/\c<=96:=by omega
               obtain rfl:c=96:=by omega
               have q9:decide ((0:Int)<(pos:Int))=true:=by simp;omega
               have hok:Hid (zbd pos 96=false):=zzH (by unfold zbd;apply zzD;omega);have hok2:Hid (zbd pos s[pos].toNat=false):=zzH (by rw [<-HR.out.1];exact hok.out);have HV:Hid (zw s=false):=zzH (HB.out hok2.out);clear HG HK HB HR hok hok2;exact zz209
              ·have hc:123<=c:=by omega
               have q0:decide ((97:Int)<=(c:Int))=true:=by simp;omega
               have q1:decide ((c:Int)<=122)=false:=by simp;omega
               exact zz20
    ·have hnx: ∀ty,(Instr.next (.pointer (some ⟨w.heap.size,0,none⟩)) true ty).run Tryz.prog (w.iter s pos)=_:=fun ty=>run_next_end w s pos ty hp
     have HV:Hid (zw s=true):=zzH (zit (by omega) (by omega) (fun i h=>HG.out i h (by omega)));clear HG;exact zz209
def zI (n:Int):Bool:=decide (n=0)
def zS (s:ByteArray):Bool:=decide (s.size=0)
def zL (l:List Tm):Bool:=decide (l.length=0)
def zgT (l:List Tm):Int:=match l.getLast? with
 |some t=>t.kind
 |none=>0
def zf0 (s:ByteArray):Nat:=(s.data.toList.getLast?.getD 0).toNat
def zcf (y:ByteArray) (z:Int):Bool:=(wi z 0 16384&&decide ((y.size:Int)=(z+7)/8))&&(decide (z%8=0)||decide (zf0 y%2^(8-z%8).toNat=0))
def zgy (t:Tm):Bool:=zcf t.bytes t.bits
def okK (t:Tm):Bool:=
 if t.kind=1 then true
 else if t.kind=2 then zw t.name
 else if t.kind=3\/t.kind=6 then wi t.int 1 2147483647&&wi t.gen 1 2147483647&&zw t.name
 else if t.kind=4 then wi t.int 0 999&&wi t.gen 1 2147483647&&zw t.name&&wi t.arity 0 16&&decide (t.items.length<=200)
 else if t.kind=5 then zw t.name&&zw t.func&&wi t.arity 0 16
 else if t.kind=7 then decide (t.items.length<=255)
 else if t.kind=8 then true
 else if t.kind=9 then decide (2<=t.items.length)&&decide (zgT t.items≠9)
 else if t.kind=10 then zgy t
 else false
def zcL (t:Tm):Bool:=
 (decide (t.kind=1\/t.kind=3\/t.kind=4\/t.kind=6)||zI t.int) &&
 (decide (t.kind=3\/t.kind=4\/t.kind=6)||zI t.gen) &&
 (decide (t.kind=2\/t.kind=3\/t.kind=4\/t.kind=5\/t.kind=6)||zS t.name) &&
 (decide (t.kind=5)||zS t.func) &&
 (decide (t.kind=4\/t.kind=5)||zI t.arity) &&
 (decide (t.kind=4\/t.kind=7\/t.kind=9)||zL t.items) &&
 (decide (t.kind=10)||zS t.bytes) &&
 (decide (t.kind=10)||zI t.bits)
def zcm (t:Tm):Bool:=okK t&&zcL t
def zj:Nat->Tm->Bool
 |0,_=>false
 |f+1,t=>zcm t&&t.items.all (zj f)
def zR (t:Tm):Int:=if t.kind=9 then(t.items.length:Int)-1 else if t.kind=10 then 1+(t.bits+63)/64 else 1
def zbB:List Int->Int
 |[]=>0
 |x::l=>x+zbB l
def zt:Nat->Tm->Int
 |0,_=>0
 |f+1,t=>zR t+zbB (t.items.map (zt f))
def zA (f:Nat) (t:Tm):Bool:=zj f t&&decide (zt f t<=2000)
theorem zdv (n a b:Int) (w:World):
  Calls Tryz.prog 197 #[.int .i64 n,.int .i64 a,.int .i64 b] w fun e w'=>e= .returned (.bool (wi n a b))/\w=w':=by
 by_cases h1:a<=n
 ·exact zz27
 ·exact zz28
def zC:Array Value:=#[.int .i64 0,.int .i64 0,.int .i64 0,.string ⟨#[]⟩,.string ⟨#[]⟩,.int .i64 0,.slice none 0 0,.string ⟨#[]⟩,.int .i64 0]
theorem zfD (w:World) (o p:Obj):((w.alloc o).alloc p).heap[w.heap.size]?=some o:=by
 rw [Below.heap_alloc (w.alloc o) p w.heap.size (by simp)];exact zzF _ _
theorem zeR (w:World) (o p:Obj):((w.alloc o).alloc p).heap[w.heap.size+1]?=some p:=by
 have:=zzF (w.alloc o) p
 rwa [show(w.alloc o).heap.size=w.heap.size+1 by simp]at this
theorem zU (w:World) (o p:Obj):Below w.heap.size w ((w.alloc o).alloc p):=(zzE _ _).alloc (by simp) _
theorem zg {w:World} {B:Nat} {v0 v1 v2 v3 v4 v5 v6 v7 v8:Value} (h:w.heap[B]?=some (.cells #[v0,v1,v2,v3,v4,v5,v6,v7,v8] 55 (0,0))):
  w.cell? ⟨B,0,none⟩=some v0/\w.cell? ⟨B,1,none⟩=some v1/\w.cell? ⟨B,2,none⟩=some v2/\w.cell? ⟨B,3,none⟩=some v3/\w.cell? ⟨B,4,none⟩=some v4/\w.cell? ⟨B,5,none⟩=some v5/\w.cell? ⟨B,6,none⟩=some v6/\w.cell? ⟨B,7,none⟩=some v7/\w.cell? ⟨B,8,none⟩=some v8 /\
   (w.frozen? ⟨B,0,none⟩=false/\w.frozen? ⟨B,1,none⟩=false/\w.frozen? ⟨B,2,none⟩=false/\w.frozen? ⟨B,3,none⟩=false/\w.frozen? ⟨B,4,none⟩=false/\w.frozen? ⟨B,5,none⟩=false/\w.frozen? ⟨B,6,none⟩=false/\w.frozen? ⟨B,7,none⟩=false/\w.frozen? ⟨B,8,none⟩=false):=by
 have hc:=fun j=>zzq2 w B j _ _ _ h
 have hf:=fun j=>zzq17 w B j _ _ h
 exact⟨hc 0,hc 1,hc 2,hc 3,hc 4,hc 5,hc 6,hc 7,hc 8,hf 0,hf 1,hf 2,hf 3,hf 4,hf 5,hf 6,hf 7,hf 8⟩
theorem zcq {w:World} {B:Nat} (v0 v1 v2 v3 v4 v5 v6 v7 v8:Value) (h:w.heap[B]?=some (.cells zC 55 (0,0))):
  (((((((((w.setCell ⟨B,0,none⟩ v0).setCell ⟨B,1,none⟩ v1).setCell ⟨B,2,none⟩ v2).setCell ⟨B,3,none⟩ v3).setCell ⟨B,4,none⟩ v4).setCell ⟨B,5,none⟩ v5).setCell ⟨B,6,none⟩ v6).setCell ⟨B,7,none⟩ v7).setCell ⟨B,8,none⟩ v8).heap[B]?=some (.cells #[v0,v1,v2,v3,v4,v5,v6,v7,v8] 55 (0,0)):=by
 have h0:(w.setCell ⟨B,0,none⟩ v0).heap[B]?=some (.cells #[v0,.int .i64 0,.int .i64 0,.string ⟨#[]⟩,.string ⟨#[]⟩,.int .i64 0,.slice none 0 0,.string ⟨#[]⟩,.int .i64 0] 55 (0,0)):=zzS _ _ 0 _ _ v0 h
 have h1:((w.setCell ⟨B,0,none⟩ v0).setCell ⟨B,1,none⟩ v1).heap[B]?=some (.cells #[v0,v1,.int .i64 0,.string ⟨#[]⟩,.string ⟨#[]⟩,.int .i64 0,.slice none 0 0,.string ⟨#[]⟩,.int .i64 0] 55 (0,0)):=zzS _ _ 1 _ _ v1 h0
 have h2:(((w.setCell ⟨B,0,none⟩ v0).setCell ⟨B,1,none⟩ v1).setCell ⟨B,2,none⟩ v2).heap[B]?=some (.cells #[v0,v1,v2,.string ⟨#[]⟩,.string ⟨#[]⟩,.int .i64 0,.slice none 0 0,.string ⟨#[]⟩,.int .i64 0] 55 (0,0)):=zzS _ _ 2 _ _ v2 h1
 have h3:((((w.setCell ⟨B,0,none⟩ v0).setCell ⟨B,1,none⟩ v1).setCell ⟨B,2,none⟩ v2).setCell ⟨B,3,none⟩ v3).heap[B]?=some (.cells #[v0,v1,v2,v3,.string ⟨#[]⟩,.int .i64 0,.slice none 0 0,.string ⟨#[]⟩,.int .i64 0] 55 (0,0)):=zzS _ _ 3 _ _ v3 h2
 have h4:(((((w.setCell ⟨B,0,none⟩ v0).setCell ⟨B,1,none⟩ v1).setCell ⟨B,2,none⟩ v2).setCell ⟨B,3,none⟩ v3).setCell ⟨B,4,none⟩ v4).heap[B]?=some (.cells #[v0,v1,v2,v3,v4,.int .i64 0,.slice none 0 0,.string ⟨#[]⟩,.int .i64 0] 55 (0,0)):=zzS _ _ 4 _ _ v4 h3
 have h5:((((((w.setCell ⟨B,0,none⟩ v0).setCell ⟨B,1,none⟩ v1).setCell ⟨B,2,none⟩ v2).setCell ⟨B,3,none⟩ v3).setCell ⟨B,4,none⟩ v4).setCell ⟨B,5,none⟩ v5).heap[B]?=some (.cells #[v0,v1,v2,v3,v4,v5,.slice none 0 0,.string ⟨#[]⟩,.int .i64 0] 55 (0,0)):=zzS _ _ 5 _ _ v5 h4
 have h6:(((((((w.setCell ⟨B,0,none⟩ v0).setCell ⟨B,1,none⟩ v1).setCell ⟨B,2,none⟩ v2).setCell ⟨B,3,none⟩ v3).setCell ⟨B,4,none⟩ v4).setCell ⟨B,5,none⟩ v5).setCell ⟨B,6,none⟩ v6).heap[B]?=some (.cells #[v0,v1,v2,v3,v4,v5,v6,.string ⟨#[]⟩,.int .i64 0] 55 (0,0)):=zzS _ _ 6 _ _ v6 h5
 have h7:((((((((w.setCell ⟨B,0,none⟩ v0).setCell ⟨B,1,none⟩ v1).setCell ⟨B,2,none⟩ v2).setCell ⟨B,3,none⟩ v3).setCell ⟨B,4,none⟩ v4).setCell ⟨B,5,none⟩ v5).setCell ⟨B,6,none⟩ v6).setCell ⟨B,7,none⟩ v7).heap[B]?=some (.cells #[v0,v1,v2,v3,v4,v5,v6,v7,.int .i64 0] 55 (0,0)):=zzS _ _ 7 _ _ v7 h6
 have h8:(((((((((w.setCell ⟨B,0,none⟩ v0).setCell ⟨B,1,none⟩ v1).setCell ⟨B,2,none⟩ v2).setCell ⟨B,3,none⟩ v3).setCell ⟨B,4,none⟩ v4).setCell ⟨B,5,none⟩ v5).setCell ⟨B,6,none⟩ v6).setCell ⟨B,7,none⟩ v7).setCell ⟨B,8,none⟩ v8).heap[B]?=some (.cells #[v0,v1,v2,v3,v4,v5,v6,v7,v8] 55 (0,0)):=zzS _ _ 8 _ _ v8 h7
 exact h8
theorem zch {w0 w:World} {B C:Nat} (hBC:B<=C) (h:Below B w0 w) (v0 v1 v2 v3 v4 v5 v6 v7 v8:Value):
  Below B w0 (((((((((w.setCell ⟨C,0,none⟩ v0).setCell ⟨C,1,none⟩ v1).setCell ⟨C,2,none⟩ v2).setCell ⟨C,3,none⟩ v3).setCell ⟨C,4,none⟩ v4).setCell ⟨C,5,none⟩ v5).setCell ⟨C,6,none⟩ v6).setCell ⟨C,7,none⟩ v7).setCell ⟨C,8,none⟩ v8):=
 ((((((((h.setCell hBC _).setCell hBC _).setCell hBC _).setCell hBC _).setCell hBC _).setCell hBC _).setCell hBC _).setCell hBC _).setCell hBC _
section
variable (k i g:Int) (n f:ByteArray) (a:Int) (so:Option Addr) (l c:Nat) (y:ByteArray) (z:Int) (w:World)
theorem znS:Calls Tryz.prog 198 #[.agg #[.int .i64 k,.int .i64 i,.int .i64 g,.string n,.string f,.int .i64 a,.slice so l c,.string y,.int .i64 z]] w fun e w'=>
  e= .returned (.tuple #[.agg #[.int .i64 k,.int .i64 i,.int .i64 g,.string n,.string f,.int .i64 a,.slice so l c,.string y,.int .i64 z],.bool (false)])/\Below w.heap.size w w':=by
 go_in;go_wp2_with fail;exact zzj (v:=.tuple #[.agg #[.int .i64 k,.int .i64 i,.int .i64 g,.string n,.string f,.int .i64 a,.slice so l c,.string y,.int .i64 z],.bool (false)]) (by simp [results,Tryz.results198,go_sem]) rfl ⟨rfl,zU _ _ _⟩
theorem zp9:Calls Tryz.prog 199 #[.agg #[.int .i64 k,.int .i64 i,.int .i64 g,.string n,.string f,.int .i64 a,.slice so l c,.string y,.int .i64 z]] w fun e w'=>
  e= .returned (.tuple #[.agg #[.int .i64 k,.int .i64 0,.int .i64 g,.string n,.string f,.int .i64 a,.slice so l c,.string y,.int .i64 z],.bool (true)])/\Below w.heap.size w w':=by
 go_in;go_wp2_with fail;exact zzj (v:=.tuple #[.agg #[.int .i64 k,.int .i64 0,.int .i64 g,.string n,.string f,.int .i64 a,.slice so l c,.string y,.int .i64 z],.bool (true)]) (by simp [results,Tryz.results199,go_sem]) rfl ⟨rfl,zU _ _ _⟩
theorem zri:Calls Tryz.prog 204 #[.agg #[.int .i64 k,.int .i64 i,.int .i64 g,.string n,.string f,.int .i64 a,.slice so l c,.string y,.int .i64 z]] w fun e w'=>
  e= .returned (.tuple #[.agg #[.int .i64 k,.int .i64 i,.int .i64 g,.string n,.string f,.int .i64 a,.slice so l c,.string y,.int .i64 z],.bool (true)])/\Below w.heap.size w w':=by
 go_in;go_wp2_with fail;exact zzj (v:=.tuple #[.agg #[.int .i64 k,.int .i64 i,.int .i64 g,.string n,.string f,.int .i64 a,.slice so l c,.string y,.int .i64 z],.bool (true)]) (by simp [results,Tryz.results204,go_sem]) rfl ⟨rfl,zU _ _ _⟩
theorem zrj:Calls Tryz.prog 196 #[.agg #[.int .i64 k,.int .i64 i,.int .i64 g,.string n,.string f,.int .i64 a,.slice so l c,.string y,.int .i64 z]] w fun e w'=>
  e= .returned (.tuple #[.agg #[.int .i64 k,.int .i64 0,.int .i64 0,.string ⟨#[]⟩,.string f,.int .i64 a,.slice so l c,.string y,.int .i64 z],.bool (wi i 1 2147483647&&wi g 1 2147483647&&zw n)])/\Below w.heap.size w w':=by
 have h0:=fun wx=>zdv i 1 2147483647 wx
 have h1:=fun wx=>zdv g 1 2147483647 wx
 have h2:=fun wx=>zd6 n wx
 generalize wi i 1 2147483647=b0 at *;generalize wi g 1 2147483647=b1 at *;generalize zw n=b2 at *
 cases b0 with
 |false=>
  exact zz29
 |true=>
  cases b1 with
  |false=>
   exact zz29
  |true=>
   go_in;go_wp2_with (go_at_call 197;first|((with_reducible refine(h0 _).mono ?_);rintro e w1 ⟨rfl,rfl⟩)|((with_reducible refine(h1 _).mono ?_);rintro e w1 ⟨rfl,rfl⟩));refine(h2 _).mono ?_;rintro e w7 ⟨rfl,hb5⟩;have r0:w7.heap[w.heap.size]?=some (.cells #[.int .i64 k,.int .i64 i,.int .i64 g,.string n,.string f,.int .i64 a,.slice so l c,.string y,.int .i64 z] 55 (0,0)):=(hb5.block _ (by simp;omega)).trans (zfD _ _ _)
   have r1:w7.heap[w.heap.size+1]?=some (.cells zC 55 (0,0)):=(hb5.block _ (by simp)).trans (zeR _ _ _)
   have hB:Below w.heap.size w w7:=(zU _ _ _).trans (hb5.mono (by simp;omega));clear hb5;generalize hBe:w.heap.size=B at *;have HBE:=zzH hBe;clear hBe;obtain⟨q0,q1,q2,q3,q4,q5,q6,q7,q8,z0⟩:=zg r0;go_upto_region 3 with(go_at_call 197;first|((with_reducible refine(h0 _).mono ?_);rintro e w1 ⟨rfl,rfl⟩)|((with_reducible refine(h1 _).mono ?_);rintro e w1 ⟨rfl,rfl⟩));have r0':(((w7.setCell ⟨B,1,none⟩ (.int .i64 0)).setCell ⟨B,2,none⟩ (.int .i64 0)).setCell ⟨B,3,none⟩ (.string ⟨#[]⟩)).heap[B]?=some (.cells #[.int .i64 k,.int .i64 0,.int .i64 0,.string ⟨#[]⟩,.string f,.int .i64 a,.slice so l c,.string y,.int .i64 z] 55 (0,0)):=(zzS _ _ 3 _ _ (.string ⟨#[]⟩) (zzS _ _ 2 _ _ (.int .i64 0) (zzS _ _ 1 _ _ (.int .i64 0) r0)))
   have r1':(((w7.setCell ⟨B,1,none⟩ (.int .i64 0)).setCell ⟨B,2,none⟩ (.int .i64 0)).setCell ⟨B,3,none⟩ (.string ⟨#[]⟩)).heap[B+1]?=some (.cells zC 55 (0,0)):=((zzq10 _ _ _ _ (by simp)).trans ((zzq10 _ _ _ _ (by simp)).trans ((zzq10 _ _ _ _ (by simp)).trans r1)))
   have hB':Below B w (((w7.setCell ⟨B,1,none⟩ (.int .i64 0)).setCell ⟨B,2,none⟩ (.int .i64 0)).setCell ⟨B,3,none⟩ (.string ⟨#[]⟩)):=(((hB.setCell (zzL _) _).setCell (zzL _) _).setCell (zzL _) _);clear q0 q1 q2 q3 q4 q5 q6 q7 q8 z0 r0 r1 hB;generalize(((w7.setCell ⟨B,1,none⟩ (.int .i64 0)).setCell ⟨B,2,none⟩ (.int .i64 0)).setCell ⟨B,3,none⟩ (.string ⟨#[]⟩))=w9 at *;exact zz30
theorem zoh:Calls Tryz.prog 200 #[.agg #[.int .i64 k,.int .i64 i,.int .i64 g,.string n,.string f,.int .i64 a,.slice so l c,.string y,.int .i64 z]] w fun e w'=>
  e= .returned (.tuple #[.agg #[.int .i64 k,.int .i64 i,.int .i64 g,.string ⟨#[]⟩,.string f,.int .i64 a,.slice so l c,.string y,.int .i64 z],.bool (zw n)])/\Below w.heap.size w w':=by
 have h0:=fun wx=>zd6 n wx
 generalize zw n=b0 at *;go_in;go_wp2_with fail;refine(h0 _).mono ?_;rintro e w5 ⟨rfl,hb5⟩;have r0:w5.heap[w.heap.size]?=some (.cells #[.int .i64 k,.int .i64 i,.int .i64 g,.string n,.string f,.int .i64 a,.slice so l c,.string y,.int .i64 z] 55 (0,0)):=(hb5.block _ (by simp;omega)).trans (zfD _ _ _)
 have r1:w5.heap[w.heap.size+1]?=some (.cells zC 55 (0,0)):=(hb5.block _ (by simp)).trans (zeR _ _ _)
 have hB:Below w.heap.size w w5:=(zU _ _ _).trans (hb5.mono (by simp;omega));clear hb5;generalize hBe:w.heap.size=B at *;have HBE:=zzH hBe;clear hBe;obtain⟨q0,q1,q2,q3,q4,q5,q6,q7,q8,z0⟩:=zg r0;go_upto_region 3 with fail;have r0':(w5.setCell ⟨B,3,none⟩ (.string ⟨#[]⟩)).heap[B]?=some (.cells #[.int .i64 k,.int .i64 i,.int .i64 g,.string ⟨#[]⟩,.string f,.int .i64 a,.slice so l c,.string y,.int .i64 z] 55 (0,0)):=(zzS _ _ 3 _ _ (.string ⟨#[]⟩) r0)
 have r1':(w5.setCell ⟨B,3,none⟩ (.string ⟨#[]⟩)).heap[B+1]?=some (.cells zC 55 (0,0)):=((zzq10 _ _ _ _ (by simp)).trans r1)
 have hB':Below B w (w5.setCell ⟨B,3,none⟩ (.string ⟨#[]⟩)):=(hB.setCell (zzL _) _);clear q0 q1 q2 q3 q4 q5 q6 q7 q8 z0 r0 r1 hB;generalize(w5.setCell ⟨B,3,none⟩ (.string ⟨#[]⟩))=w9 at *;obtain⟨q0,q1,q2,q3,q4,q5,q6,q7,q8,z0⟩:=zg r0';obtain⟨p0,p1,p2,p3,p4,p5,p6,p7,p8,z1⟩:=zg r1';go_wp2_with fail;refine zzj (zT rfl _ _ _ (B+1) _ _ _ _ rfl (zcq _ _ _ _ _ _ _ _ _ r1') Tryz.underlying55 (by kernel_rfl)) rfl ?_;exact⟨rfl,by rw [HBE.out];exact zch (Nat.le_succ _) hB' _ _ _ _ _ _ _ _ _⟩
theorem zlL:Calls Tryz.prog 202 #[.agg #[.int .i64 k,.int .i64 i,.int .i64 g,.string n,.string f,.int .i64 a,.slice so l c,.string y,.int .i64 z]] w fun e w'=>
  e= .returned (.tuple #[.agg #[.int .i64 k,.int .i64 i,.int .i64 g,.string ⟨#[]⟩,.string ⟨#[]⟩,.int .i64 0,.slice so l c,.string y,.int .i64 z],.bool (zw n&&zw f&&wi a 0 16)])/\Below w.heap.size w w':=by
 have h0:=fun wx=>zd6 n wx
 have h1:=fun wx=>zd6 f wx
 have h2:=fun wx=>zdv a 0 16 wx
 generalize zw n=b0 at *;generalize zw f=b1 at *;generalize wi a 0 16=b2 at *;go_in;go_wp2_with (go_at_call 197;first|((with_reducible refine(h2 _).mono ?_);rintro e w1 ⟨rfl,rfl⟩));refine(h0 _).mono ?_;rintro e w5 ⟨rfl,hb5⟩;have r0:w5.heap[w.heap.size]?=some (.cells #[.int .i64 k,.int .i64 i,.int .i64 g,.string n,.string f,.int .i64 a,.slice so l c,.string y,.int .i64 z] 55 (0,0)):=(hb5.block _ (by simp;omega)).trans (zfD _ _ _)
 have r1:w5.heap[w.heap.size+1]?=some (.cells zC 55 (0,0)):=(hb5.block _ (by simp)).trans (zeR _ _ _)
 have hB:Below w.heap.size w w5:=(zU _ _ _).trans (hb5.mono (by simp;omega));clear hb5;generalize hBe:w.heap.size=B at *;have HBE:=zzH hBe;clear hBe;obtain⟨q0,q1,q2,q3,q4,q5,q6,q7,q8,z0⟩:=zg r0
 cases b0 with
 |false=>
  go_upto_region 3 with(go_at_call 197;first|((with_reducible refine(h2 _).mono ?_);rintro e w1 ⟨rfl,rfl⟩));have r0':(((w5.setCell ⟨B,3,none⟩ (.string ⟨#[]⟩)).setCell ⟨B,4,none⟩ (.string ⟨#[]⟩)).setCell ⟨B,5,none⟩ (.int .i64 0)).heap[B]?=some (.cells #[.int .i64 k,.int .i64 i,.int .i64 g,.string ⟨#[]⟩,.string ⟨#[]⟩,.int .i64 0,.slice so l c,.string y,.int .i64 z] 55 (0,0)):=(zzS _ _ 5 _ _ (.int .i64 0) (zzS _ _ 4 _ _ (.string ⟨#[]⟩) (zzS _ _ 3 _ _ (.string ⟨#[]⟩) r0)))
  have r1':(((w5.setCell ⟨B,3,none⟩ (.string ⟨#[]⟩)).setCell ⟨B,4,none⟩ (.string ⟨#[]⟩)).setCell ⟨B,5,none⟩ (.int .i64 0)).heap[B+1]?=some (.cells zC 55 (0,0)):=((zzq10 _ _ _ _ (by simp)).trans ((zzq10 _ _ _ _ (by simp)).trans ((zzq10 _ _ _ _ (by simp)).trans r1)))
  have hB':Below B w (((w5.setCell ⟨B,3,none⟩ (.string ⟨#[]⟩)).setCell ⟨B,4,none⟩ (.string ⟨#[]⟩)).setCell ⟨B,5,none⟩ (.int .i64 0)):=(((hB.setCell (zzL _) _).setCell (zzL _) _).setCell (zzL _) _);clear q0 q1 q2 q3 q4 q5 q6 q7 q8 z0 r0 r1 hB;generalize(((w5.setCell ⟨B,3,none⟩ (.string ⟨#[]⟩)).setCell ⟨B,4,none⟩ (.string ⟨#[]⟩)).setCell ⟨B,5,none⟩ (.int .i64 0))=w9 at *;exact zz30
 |true=>
  go_wp2_with (go_at_call 197;first|((with_reducible refine(h2 _).mono ?_);rintro e w1 ⟨rfl,rfl⟩));refine(h1 _).mono ?_;rintro e w6 ⟨rfl,hb5⟩;have r0n:=(hb5.block B (zc r0)).trans r0;have r1n:=(hb5.block (B+1) (zc r1)).trans r1;have hBn:Below B w w6:=hB.trans (hb5.mono (zzb (zc r0)));clear hb5 r0 r1 hB q0 q1 q2 q3 q4 q5 q6 q7 q8 z0;have r0:=r0n;have r1:=r1n;have hB:=hBn;clear r0n r1n hBn;obtain⟨q0,q1,q2,q3,q4,q5,q6,q7,q8,z0⟩:=zg r0
  cases b1 with
  |false=>
   exact zz31
  |true=>
   cases b2 with
   |false=>
    exact zz31
   |true=>
    exact zz31
theorem znp:Calls Tryz.prog 203 #[.agg #[.int .i64 k,.int .i64 i,.int .i64 g,.string n,.string f,.int .i64 a,.slice so l c,.string y,.int .i64 z]] w fun e w'=>
  e= .returned (.tuple #[.agg #[.int .i64 k,.int .i64 i,.int .i64 g,.string n,.string f,.int .i64 a,.slice none 0 0,.string y,.int .i64 z],.bool (decide ((l:Int)<=255))])/\Below w.heap.size w w':=by
 cases hp:decide ((l:Int)<=255)with
 |false=>
  go_in;go_wp2_with fail;exact zzj (v:=.tuple #[.agg #[.int .i64 k,.int .i64 i,.int .i64 g,.string n,.string f,.int .i64 a,.slice none 0 0,.string y,.int .i64 z],.bool (false)]) (by simp [results,Tryz.results203,go_sem]) rfl ⟨rfl,zU _ _ _⟩
 |true=>
  go_in;go_wp2_with fail;exact zzj (v:=.tuple #[.agg #[.int .i64 k,.int .i64 i,.int .i64 g,.string n,.string f,.int .i64 a,.slice none 0 0,.string y,.int .i64 z],.bool (true)]) (by simp [results,Tryz.results203,go_sem]) rfl ⟨rfl,zU _ _ _⟩
theorem zkj:Calls Tryz.prog 201 #[.agg #[.int .i64 k,.int .i64 i,.int .i64 g,.string n,.string f,.int .i64 a,.slice so l c,.string y,.int .i64 z]] w fun e w'=>
  e= .returned (.tuple #[.agg #[.int .i64 k,.int .i64 0,.int .i64 0,.string ⟨#[]⟩,.string f,.int .i64 0,.slice none 0 0,.string y,.int .i64 z],.bool (wi i 0 999&&wi g 1 2147483647&&zw n&&wi a 0 16&&decide ((l:Int)<=200))])/\Below w.heap.size w w':=by
 have h0:=fun wx=>zdv i 0 999 wx
 have h1:=fun wx=>zdv g 1 2147483647 wx
 have h2:=fun wx=>zd6 n wx
 have h3:=fun wx=>zdv a 0 16 wx
 generalize wi i 0 999=b0 at *;generalize wi g 1 2147483647=b1 at *;generalize zw n=b2 at *;generalize wi a 0 16=b3 at *
 cases hp:decide ((l:Int)<=200)with
 |false=>
  exact zz32
 |true=>
  exact zz32
end
theorem zqU (b r:Nat) (hb:b<256) (hr:r<8):b*2^r%256=0↔b%2^(8-r)=0:=by
 match r,hr with
 |0,_=>simp
 |1,_=>simp;omega
 |2,_=>simp;omega
 |3,_=>simp;omega
 |4,_=>simp;omega
 |5,_=>simp;omega
 |6,_=>simp;omega
 |7,_=>simp;omega
 |r+8,h=>omega
theorem zhE {y:ByteArray} {m:Nat} (h:y.size=m+1):zf0 y=(y[m]'(by omega)).toNat:=by
 unfold zf0;have hl:y.data.toList.length=m+1:=by rw [Array.length_toList];exact h
 rw [List.getLast?_eq_getElem?,hl,Nat.add_sub_cancel,zzq11 (by omega)]
 rfl
section
variable (k i g:Int) (n f:ByteArray) (a:Int) (so:Option Addr) (l c:Nat) (y:ByteArray) (z:Int) (w:World)
theorem znK (hl:l<2):Calls Tryz.prog 205 #[.agg #[.int .i64 k,.int .i64 i,.int .i64 g,.string n,.string f,.int .i64 a,.slice so l c,.string y,.int .i64 z]] w fun e w'=>
  e= .returned (.tuple #[.agg #[.int .i64 k,.int .i64 i,.int .i64 g,.string n,.string f,.int .i64 a,.slice none 0 0,.string y,.int .i64 z],.bool false])/\Below w.heap.size w w':=by
 have hd:decide ((2:Int)<=(l:Int))=false:=zzD (by omega);go_in;go_wp2_with fail;exact zzj (v:=.tuple #[.agg #[.int .i64 k,.int .i64 i,.int .i64 g,.string n,.string f,.int .i64 a,.slice none 0 0,.string y,.int .i64 z],.bool false]) (by simp [results,Tryz.results205,go_sem]) rfl ⟨rfl,zU _ _ _⟩
theorem zm5 (b off m:Nat) (kk:Int) (hm:m<=9223372036854775805) (hb:b<w.heap.size) (hc:w.cell? ⟨b,off+(m+1)*9,none⟩=some (.int .i64 kk)):Calls Tryz.prog 205 #[.agg #[.int .i64 k,.int .i64 i,.int .i64 g,.string n,.string f,.int .i64 a,.slice (some ⟨b,off,none⟩) (m+2) c,.string y,.int .i64 z]] w fun e w'=>
  e = .returned (.tuple #[.agg #[.int .i64 k, .int .i64 i, .int .i64 g, .string n, .string f, .int .i64 a, .slice none 0 0, .string y, .int .i64 z], .bool (kk != 9)]) /\ Below w.heap.size w w' := by
 have hd:decide ((2:Int)<=((m+2:Nat):Int))=true:=zzT (by omega);have hi:(((m+2:Nat):Int)-1).toNat=m+1:=by omega
 go_in;go_wp2_with fail;exact zzj (v := .tuple #[.agg #[.int .i64 k, .int .i64 i, .int .i64 g, .string n, .string f, .int .i64 a, .slice none 0 0, .string y, .int .i64 z], .bool (kk != 9)]) (by simp [results, Tryz.results205, go_sem]) rfl ⟨rfl, zU _ _ _⟩
theorem zoD (hy:y.size<=9223372036854775807) (hz:I64 z):Calls Tryz.prog 206 #[.agg #[.int .i64 k,.int .i64 i,.int .i64 g,.string n,.string f,.int .i64 a,.slice so l c,.string y,.int .i64 z]] w fun e w'=>
  e= .returned (.tuple #[.agg #[.int .i64 k,.int .i64 i,.int .i64 g,.string n,.string f,.int .i64 a,.slice so l c,.string ⟨#[]⟩,.int .i64 0],.bool (zcf y z)])/\Below w.heap.size w w':=by
 have h0:=fun wx=>zdv z 0 16384 wx
 by_cases hw:0<=z/\z<=16384
 ·obtain⟨z0,z1⟩:=hw
  have hwi:=zev z0 z1;have E0:zcf y z=(decide ((y.size:Int)=(z+7)/8)&&(decide (z%8=0)||decide (zf0 y%2^(8-z%8).toNat=0))):=by unfold zcf;rw [hwi];rfl
  rw [hwi]at h0;clear hwi;by_cases hl:(y.size:Int)=(z+7)/8
  ·have hlb:((y.size:Int)==(z+7)/8)=true:=by rw [beq_iff_eq];exact hl
   by_cases hr:z%8=0
   ·have hrb:(z%8!=0)=false:=by rw [bne_eq_false_iff_eq];exact hr
    have E:=zzH (E0.trans (by rw [decide_eq_true hl,decide_eq_true hr];rfl:_=true));rw [E.out];clear E E0 hr hl hz;go_in;go_wp2_with (go_at_call 197;refine(h0 _).mono ?_;rintro e w1 ⟨rfl,rfl⟩);exact zzj (v:=.tuple #[.agg #[.int .i64 k,.int .i64 i,.int .i64 g,.string n,.string f,.int .i64 a,.slice so l c,.string ⟨#[]⟩,.int .i64 0],.bool true]) (by simp [results,Tryz.results206,go_sem]) rfl ⟨rfl,zU _ _ _⟩
   ·have hrb:(z%8!=0)=true:=by rw [bne_iff_ne];exact hr
    obtain⟨m,hm⟩: ∃m,y.size=m+1:=⟨y.size-1,by omega⟩;have hmi:m<y.size:=by omega
    have hmy:m<=100000:=by omega
    have HM:=zzH hm;have hw1:IntKind.i64.wrap ((y.size:Int)-1)=(m:Int):=by rw [zzq5];omega
    have hrem:z.tmod 8=z%8:=by rw [Int.tmod_eq_emod_of_nonneg z0]
    have hr0:0<=z%8:=by omega
    have hr8:z%8<8:=by omega
    have EE:Hid ((((y[m].toNat:Nat):Int)*2^(z%8).toNat%256==0)=zcf y z):=zzH (by
     rw [E0,decide_eq_true hl,decide_eq_false hr,zhE hm];rw [zzq15,zzq9];have h:=zqU y[m].toNat (z%8).toNat (UInt8.toNat_lt _) (by omega);rw [show(8-z%8).toNat=8-(z%8).toNat by omega];rw [Bool.eq_iff_iff,beq_iff_eq,zzq7,<-h];exact⟨fun h=>by exact_mod_cast h,fun h=>by exact_mod_cast h⟩)
    clear hl hz hm hr E0;go_in;go_wp2_with (go_at_call 197;refine(h0 _).mono ?_;rintro e w1 ⟨rfl,rfl⟩);go_quiet (fail);go_wp2_with fail;refine zzj (zT rfl _ _ _ (w.heap.size+1) _ _ _ _ rfl (zcq _ _ _ _ _ _ _ _ _ ((zzq10 _ _ _ _ (by simp)).trans ((zzq10 _ _ _ _ (by simp)).trans (zeR w _ _)))) Tryz.underlying55 (by kernel_rfl)) rfl ?_;exact⟨by rw [<-EE.out];rfl,zch (Nat.le_succ _) (((zP (zU _ _ _) _).setCell (zzL _) _).setCell (zzL _) _) _ _ _ _ _ _ _ _ _⟩
  ·have hlb:((y.size:Int)==(z+7)/8)=false:=by rw [zzq3];exact hl
   have E:=zzH (E0.trans (by rw [decide_eq_false hl];rfl:_=false));rw [E.out];clear E E0 hl hz;exact zz33
 ·have hwi:=zdK hw
  have E:Hid (zcf y z=false):=zzH (by unfold zcf;rw [hwi];rfl);rw [hwi]at h0;rw [E.out];clear E hwi hw hz;exact zz33
end
def zcv (rec:Tm->Tm->Bool):List Tm->List Tm->Bool
 |[],[]=>true
 |x::l,y::m=>rec x y&&zcv rec l m
 |_,_=>false
def zj4 (a b:Tm):Bool:=(a.kind==b.kind)&&((a.int==b.int)&&((a.gen==b.gen)&&((a.name.toList==b.name.toList)&&((a.func.toList==b.func.toList)&&((a.arity==b.arity)&&((a.bytes.toList==b.bytes.toList)&&(a.bits==b.bits)))))))
def zce:Nat->Tm->Tm->Bool
 |0,_,_=>false
 |f+1,a,b=>zj4 a b&&zcv (zce f) a.items b.items
theorem zjH {rec:Tm->Tm->Bool}: ∀{l m:List Tm},l.length≠m.length->zcv rec l m=false
 |[],[],h=>absurd rfl h
 |_::l,_::m,h=>by
  unfold zcv;rw [zjH (l:=l) (m:=m) (by simpa using h)];exact Bool.and_false _
 |[],_::_,_=>rfl
 |_::_,[],_=>rfl
theorem znc {rec:Tm->Tm->Bool} {l m:List Tm} {k:Nat} (h:k<l.length) (h':k<m.length):zcv rec (l.drop k) (m.drop k)=(rec l[k] m[k]&&zcv rec (l.drop (k+1)) (m.drop (k+1))):=by
 rw [List.drop_eq_getElem_cons h,List.drop_eq_getElem_cons h',zcv]
theorem znZ {rec:Tm->Tm->Bool} {l m:List Tm} {k:Nat} (h:l.length<=k) (h':m.length<=k):zcv rec (l.drop k) (m.drop k)=true:=by
 rw [zzq8 h,zzq8 h',zcv]
def ziK (f:Nat):Prop:= ∀(ao bo:Option Addr) (c d:Nat) (l m:List Tm) (w:World),SlAt w 9 (TmAt w f) ao l->SlAt w 9 (TmAt w f) bo m->l.length<=maxLen->m.length<=maxLen ->
 Calls Tryz.prog 220 #[.slice ao l.length c,.slice bo m.length d,.func (.func 207) #[] #[]] w fun e w'=>e= .returned (.bool (zcv (zce f) l m))/\Below w.heap.size w w'
def zmx (f:Nat):Prop:= ∀(a b:Tm) (ao bo:Option Addr) (c d:Nat) (w:World),SlAt w 9 (TmAt w f) ao a.items->SlAt w 9 (TmAt w f) bo b.items->a.items.length<=maxLen->b.items.length<=maxLen ->
 Calls Tryz.prog 207 #[.agg #[.int .i64 a.kind,.int .i64 a.int,.int .i64 a.gen,.string a.name,.string a.func,.int .i64 a.arity,.slice ao a.items.length c,.string a.bytes,.int .i64 a.bits],
   .agg #[.int .i64 b.kind,.int .i64 b.int,.int .i64 b.gen,.string b.name,.string b.func,.int .i64 b.arity,.slice bo b.items.length d,.string b.bytes,.int .i64 b.bits]] w fun e w'=>e= .returned (.bool (zce (f+1) a b))/\Below w.heap.size w w'
theorem zmh {f:Nat} (HP:Hid (ziK f)):zmx f:=by
 intro a b ao bo c d w ha hb hla hlb
 have hA: ∀wx,Below w.heap.size w wx->Calls Tryz.prog 220 #[.slice ao a.items.length c,.slice bo b.items.length d,.func (.func 207) #[] #[]] wx fun e w'=>e= .returned (.bool (zcv (zce f) a.items b.items))/\Below w.heap.size w w':=
  fun wx hx=>(HP.out ao bo c d a.items b.items wx (ha.tms hx) (hb.tms hx) hla hlb).mono fun _ _ ⟨h1,h2⟩=>⟨h1,zd hx h2⟩
 have E0:Hid (zce (f+1) a b=(zj4 a b&&zcv (zce f) a.items b.items)):=zzH rfl;unfold zj4 at E0;clear ha hb hla hlb;generalize zcv (zce f) a.items b.items=sl at *;generalize zce (f+1) a b=r at *;obtain⟨ak,ai,ag,an,af,aa,al,ay,az⟩:=a;obtain⟨bk,bi,bg,bn,bf,ba,bl,by',bz⟩:=b;simp only [Tm.kind,Tm.int,Tm.gen,Tm.name,Tm.func,Tm.arity,Tm.items,Tm.bytes,Tm.bits]at *;have hbe:Below w.heap.size w ((w.alloc (.cells #[.int .i64 ak,.int .i64 ai,.int .i64 ag,.string an,.string af,.int .i64 aa,.slice ao al.length c,.string ay,.int .i64 az] 55)).alloc (.cells #[.int .i64 bk,.int .i64 bi,.int .i64 bg,.string bn,.string bf,.int .i64 ba,.slice bo bl.length d,.string by',.int .i64 bz] 55)):=zU _ _ _;have HA:=hA _ hbe;have HBE:=zzH hbe;clear hA hbe
 cases t0:(ak==bk)with
 |false=>
  simp only [t0]at E0;exact zz34
 |true=>
  simp only [t0]at E0
  cases t1:(ai==bi)with
  |false=>
   simp only [t1]at E0;exact zz34
  |true=>
   simp only [t1]at E0
   cases t2:(ag==bg)with
   |false=>
    simp only [t2]at E0;exact zz34
   |true=>
    simp only [t2]at E0
    cases t3:(an.toList==bn.toList)with
    |false=>
     simp only [t3]at E0;exact zz34
    |true=>
     simp only [t3]at E0
     cases t4:(af.toList==bf.toList)with
     |false=>
      simp only [t4]at E0;exact zz34
     |true=>
      simp only [t4]at E0
      cases t5:(aa==ba)with
      |false=>
       simp only [t5]at E0;exact zz34
      |true=>
       simp only [t5]at E0
       cases t6:(ay.toList==by'.toList)with
       |false=>
        simp only [t6]at E0;exact zz34
       |true=>
        simp only [t6]at E0
        cases t7:(az==bz)with
        |false=>
         simp only [t7]at E0;exact zz34
        |true=>
         simp only [t7]at E0;simp only [zzq15,Bool.false_and,Bool.and_true,Bool.and_false]at E0;go_in;go_wp2_with fail;refine HA.mono ?_;rintro e w5 ⟨rfl,hb5⟩;go_wp2;go_ret;exact⟨zn E0.out.symm,hb5⟩
theorem zny:ziK 0:=by
 intro ao bo c d l m w ha hb hla hlb;obtain rfl:=ha.zero;obtain rfl:=hb.zero;go_in;go_wp2_with fail;go_loop [16] (fun i=>i= .int .i64 0) (fun _=>0)
 case atStart=>rfl
 case round=>
  obtain rfl:=hrel;exact zz6
theorem zmZ {f:Nat} (HQ:Hid (zmx f)):ziK (f+1):=by
 intro ao bo c d l m w ha hb hla hlb;unfold maxLen at hla hlb;by_cases hlm:l.length=m.length
 ·have HA:=zzH ha;have HB:=zzH hb
  have HLM:=zzH hlm;have hlmb:((l.length:Int)!=(m.length:Int))=false:=by rw [hlm];simp
  have HS:Hid (zcv (zce (f+1)) l m=zcv (zce (f+1)) (l.drop 0) (m.drop 0)):=zzH rfl;clear ha hb hlm;go_in;go_wp2_with fail;go_loopw [7,8,16] (fun _ _ i wr=> ∃k:Nat,k<=l.length/\i= .int .i64 k/\Hid (zcv (zce (f+1)) l m=zcv (zce (f+1)) (l.drop k) (m.drop k))/\Below w.heap.size w wr) (fun _ _ i _=>l.length-(intOf i).toNat)
  case atStart=>exact⟨0,zzZ _,rfl,HS,zzR _ _⟩
  case round=>
   obtain⟨k,hk,rfl,HK,hBw⟩:=hrel;rename World=>wr
   by_cases hlt:k<l.length
   ·have hlt':k<m.length:=by have:=HLM.out;omega
    have hsa:=HA.out.tms hBw;have hsb:=HB.out.tms hBw;obtain⟨b1,off1,ai,ci,hao,hb1,q0,q1,q2,q3,q4,q5,q6,q7,q8,hit,hok⟩:=hsa.tm hlt;obtain⟨b2,off2,bi,di,hbo,hb2,p0,p1,p2,p3,p4,p5,p6,p7,p8,hit2,hok2⟩:=hsb.tm hlt';subst hao;subst hbo;have HST:=zzH (znc (rec:=zce (f+1)) hlt hlt');have hbx:Below wr.heap.size wr (wr.alloc (.cells (zzt l[k] ai ci) 55)):=zzE _ _;have hSM:=HQ.out l[k] m[k] ai bi ci di (wr.alloc (.cells (zzt l[k] ai ci) 55)).drew (hit.tms hbx.drew) (hit2.tms hbx.drew) hok.2.2.2.2.2.2.1 hok2.2.2.2.2.2.2.1;have HBX:=zzH (hBw.trans (hbx.mono hBw.size));have hbs:w.heap.size<=(wr.alloc (.cells (zzt l[k] ai ci) 55)).heap.size:=HBX.out.size;have hca:=zzF wr (.cells #[.int .i64 l[k].kind,.int .i64 l[k].int,.int .i64 l[k].gen,.string l[k].name,.string l[k].func,.int .i64 l[k].arity,.slice ai l[k].items.length ci,.string l[k].bytes,.int .i64 l[k].bits] 55);have hb2':b2<(wr.alloc (.cells (zzt l[k] ai ci) 55)).heap.size:=zzW hb2 hbx.size;have p0':=(hbx.cell (p:=⟨b2,off2+k*9,none⟩) hb2).trans p0;have p1':=(hbx.cell (p:=⟨b2,off2+k*9+1,none⟩) hb2).trans p1;have p2':=(hbx.cell (p:=⟨b2,off2+k*9+2,none⟩) hb2).trans p2;have p3':=(hbx.cell (p:=⟨b2,off2+k*9+3,none⟩) hb2).trans p3;have p4':=(hbx.cell (p:=⟨b2,off2+k*9+4,none⟩) hb2).trans p4;have p5':=(hbx.cell (p:=⟨b2,off2+k*9+5,none⟩) hb2).trans p5;have p6':=(hbx.cell (p:=⟨b2,off2+k*9+6,none⟩) hb2).trans p6;have p7':=(hbx.cell (p:=⟨b2,off2+k*9+7,none⟩) hb2).trans p7;have p8':=(hbx.cell (p:=⟨b2,off2+k*9+8,none⟩) hb2).trans p8;clear hit hit2 hok hok2 hsa hsb hbx;generalize l[k]=x at *;generalize m[k]=y at *
    cases hr:zce (f+1) x y with
    |true=>
     have HK2:Hid (zcv (zce (f+1)) l m=zcv (zce (f+1)) (l.drop (k+1)) (m.drop (k+1))):=zzH (by rw [HK.out,HST.out,hr,zzq15]);rw [hr]at hSM;clear hr;have HBS:=zzH hbs;clear hbs;go_wp2_with fail;generalize(wr.alloc (.cells (zzt x ai ci) 55))=wa at *;generalize wr.heap.size=C at *;obtain⟨q0',q1',q2',q3',q4',q5',q6',q7',q8',z1⟩:=zg hca;have hCs:=zc hca;have HCA:=zzH hca;clear hca z1 q0 q1 q2 q3 q4 q5 q6 q7 q8 p0 p1 p2 p3 p4 p5 p6 p7 p8
     first|go_region_held3 (fun w'=>((w'.cell? ⟨C,0,none⟩=some (.int .i64 x.kind)/\w'.cell? ⟨C,1,none⟩=some (.int .i64 x.int)/\w'.cell? ⟨C,2,none⟩=some (.int .i64 x.gen)/\w'.cell? ⟨C,3,none⟩=some (.string x.name)/\w'.cell? ⟨C,4,none⟩=some (.string x.func)/\w'.cell? ⟨C,5,none⟩=some (.int .i64 x.arity)/\w'.cell? ⟨C,6,none⟩=some (.slice ai x.items.length ci)/\w'.cell? ⟨C,7,none⟩=some (.string x.bytes)/\w'.cell? ⟨C,8,none⟩=some (.int .i64 x.bits))/\(w'.cell? ⟨b2,off2+k*9,none⟩=some (.int .i64 y.kind)/\w'.cell? ⟨b2,off2+k*9+1,none⟩=some (.int .i64 y.int)/\w'.cell? ⟨b2,off2+k*9+2,none⟩=some (.int .i64 y.gen)/\w'.cell? ⟨b2,off2+k*9+3,none⟩=some (.string y.name)/\w'.cell? ⟨b2,off2+k*9+4,none⟩=some (.string y.func)/\w'.cell? ⟨b2,off2+k*9+5,none⟩=some (.int .i64 y.arity)/\w'.cell? ⟨b2,off2+k*9+6,none⟩=some (.slice bi y.items.length di)/\w'.cell? ⟨b2,off2+k*9+7,none⟩=some (.string y.bytes)/\w'.cell? ⟨b2,off2+k*9+8,none⟩=some (.int .i64 y.bits)))) (((repeat' apply And.intro)<;>assumption)) ((go_at_call 207;refine hSM.mono ?_;rintro e w5 ⟨rfl,hb5⟩;obtain⟨r0,r1,r2,r3,r4,r5,r6,r7,r8,_⟩:=zg ((hb5.block C hCs).trans HCA.out);have s0:=(hb5.cell (p:=⟨b2,off2+k*9,none⟩) hb2').trans p0';have s1:=(hb5.cell (p:=⟨b2,off2+k*9+1,none⟩) hb2').trans p1';have s2:=(hb5.cell (p:=⟨b2,off2+k*9+2,none⟩) hb2').trans p2';have s3:=(hb5.cell (p:=⟨b2,off2+k*9+3,none⟩) hb2').trans p3';have s4:=(hb5.cell (p:=⟨b2,off2+k*9+4,none⟩) hb2').trans p4';have s5:=(hb5.cell (p:=⟨b2,off2+k*9+5,none⟩) hb2').trans p5';have s6:=(hb5.cell (p:=⟨b2,off2+k*9+6,none⟩) hb2').trans p6';have s7:=(hb5.cell (p:=⟨b2,off2+k*9+7,none⟩) hb2').trans p7';have s8:=(hb5.cell (p:=⟨b2,off2+k*9+8,none⟩) hb2').trans p8'))|fail
     go_wp2_with fail;go_roundw
     case rel=>exact⟨k+1,by omega,by go_num,HK2,HBX.out.drew.trans (hb5.mono HBS.out)⟩
     case measure=>simp [intOf];omega
    |false=>
     have E:Hid (zcv (zce (f+1)) l m=false):=zzH (by rw [HK.out,HST.out,hr,Bool.false_and]);rw [hr]at hSM;clear hr;have HBS:=zzH hbs;clear hbs;go_wp2_with fail;generalize(wr.alloc (.cells (zzt x ai ci) 55))=wa at *;generalize wr.heap.size=C at *;obtain⟨q0',q1',q2',q3',q4',q5',q6',q7',q8',z1⟩:=zg hca;have hCs:=zc hca;have HCA:=zzH hca;clear hca z1 q0 q1 q2 q3 q4 q5 q6 q7 q8 p0 p1 p2 p3 p4 p5 p6 p7 p8
     first|go_region_held3 (fun w'=>((w'.cell? ⟨C,0,none⟩=some (.int .i64 x.kind)/\w'.cell? ⟨C,1,none⟩=some (.int .i64 x.int)/\w'.cell? ⟨C,2,none⟩=some (.int .i64 x.gen)/\w'.cell? ⟨C,3,none⟩=some (.string x.name)/\w'.cell? ⟨C,4,none⟩=some (.string x.func)/\w'.cell? ⟨C,5,none⟩=some (.int .i64 x.arity)/\w'.cell? ⟨C,6,none⟩=some (.slice ai x.items.length ci)/\w'.cell? ⟨C,7,none⟩=some (.string x.bytes)/\w'.cell? ⟨C,8,none⟩=some (.int .i64 x.bits))/\(w'.cell? ⟨b2,off2+k*9,none⟩=some (.int .i64 y.kind)/\w'.cell? ⟨b2,off2+k*9+1,none⟩=some (.int .i64 y.int)/\w'.cell? ⟨b2,off2+k*9+2,none⟩=some (.int .i64 y.gen)/\w'.cell? ⟨b2,off2+k*9+3,none⟩=some (.string y.name)/\w'.cell? ⟨b2,off2+k*9+4,none⟩=some (.string y.func)/\w'.cell? ⟨b2,off2+k*9+5,none⟩=some (.int .i64 y.arity)/\w'.cell? ⟨b2,off2+k*9+6,none⟩=some (.slice bi y.items.length di)/\w'.cell? ⟨b2,off2+k*9+7,none⟩=some (.string y.bytes)/\w'.cell? ⟨b2,off2+k*9+8,none⟩=some (.int .i64 y.bits)))) (((repeat' apply And.intro)<;>assumption)) ((go_at_call 207;refine hSM.mono ?_;rintro e w5 ⟨rfl,hb5⟩;obtain⟨r0,r1,r2,r3,r4,r5,r6,r7,r8,_⟩:=zg ((hb5.block C hCs).trans HCA.out);have s0:=(hb5.cell (p:=⟨b2,off2+k*9,none⟩) hb2').trans p0';have s1:=(hb5.cell (p:=⟨b2,off2+k*9+1,none⟩) hb2').trans p1';have s2:=(hb5.cell (p:=⟨b2,off2+k*9+2,none⟩) hb2').trans p2';have s3:=(hb5.cell (p:=⟨b2,off2+k*9+3,none⟩) hb2').trans p3';have s4:=(hb5.cell (p:=⟨b2,off2+k*9+4,none⟩) hb2').trans p4';have s5:=(hb5.cell (p:=⟨b2,off2+k*9+5,none⟩) hb2').trans p5';have s6:=(hb5.cell (p:=⟨b2,off2+k*9+6,none⟩) hb2').trans p6';have s7:=(hb5.cell (p:=⟨b2,off2+k*9+7,none⟩) hb2').trans p7';have s8:=(hb5.cell (p:=⟨b2,off2+k*9+8,none⟩) hb2').trans p8'))|fail
     go_wp2;go_ret;exact⟨zn E.out.symm,HBX.out.drew.trans (hb5.mono HBS.out)⟩
   ·have E:Hid (zcv (zce (f+1)) l m=true):=zzH (by rw [HK.out];exact znZ (by omega) (by have:=HLM.out;omega))
    go_wp2;go_ret;exact⟨zn E.out.symm,hBw⟩
 ·have hlmb:((l.length:Int)!=(m.length:Int))=true:=by rw [bne_iff_ne];omega
  have E:Hid (zcv (zce (f+1)) l m=false):=zzH (zjH hlm);clear ha hb hlm;go_in;go_wp2;go_ret;exact⟨zn E.out.symm,zzR _ _⟩
theorem zji: ∀f,ziK f
 |0=>zny
 |f+1=>zmZ (zzH (zmh (zzH (zji f))))
theorem zqs (f:Nat):zmx f:=zmh (zzH (zji f))
def zbR:List Nat->Nat
 |[]=>0
 |x::l=>x+zbR l
def zG:Nat->Tm->Nat
 |0,_=>0
 |f+1,t=>300+t.items.length+zbR (t.items.map (zG f))
theorem zcP (w:World) (o:Option Nat):w.grownBy w o:=⟨rfl,rfl,rfl,zzL _,fun _ _ _=>rfl⟩
theorem zk {a b c:World} {o:Option Nat} (h:a.grownBy b o) (h':b.grownBy c o):a.grownBy c o:=
 ⟨h'.os.trans h.os,h'.tape.trans h.tape,h'.output.trans h.output,zzY h.size h'.size,fun k hk hn=>(h'.block k (zzW hk h.size) hn).trans (h.block k hk hn)⟩
theorem zg2 {a b:World} {o:Option Nat} (h:a.grownBy b o) (n:Nat):a.grownBy (b.drewN n) o:=⟨h.os,h.tape,h.output,h.size,h.block⟩
theorem zfX {a b:World} {o:Option Nat} (h:a.grownBy b o):a.grownBy b.drew o:=⟨h.os,h.tape,h.output,h.size,h.block⟩
theorem zbr {a b:World} (h:Below a.heap.size a b) (o:Option Nat):a.grownBy b o:=⟨h.os,h.tape,h.output,h.size,fun k hk _=>h.block k hk⟩
theorem zkV {w:World}: ∀(f:Nat) (l:List Tm) (m:Int),(∀t∈l,∃cs,TmAt w f cs t)->0<=zbS f l m->((zbR (l.map (zG f))+l.length:Nat):Int)<=301*(m-zbS f l m)
 |0,l,m,h,_=>by
  cases l with
  |nil=>show((0+0:Nat):Int)<=301*(m-m);omega
  |cons t l=>obtain⟨cs,hf⟩:=h t zzg;exact hf.elim
 |f+1,l,m,h,hp=>by
  have IH:=zkV (w:=w) f;show((zbR (l.map (zG (f+1)))+l.length:Nat):Int)<=301*(m-zdd (zbS f) l m);have hp:0<=zdd (zbS f) l m:=hp
  induction l generalizing m with
  |nil=>show((0+0:Nat):Int)<=301*(m-m);omega
  |cons t l ih=>
   unfold zdd at hp ⊢;by_cases h0:m<0
   ·rw [if_pos h0]at hp;omega
   ·rw [if_neg h0]at hp ⊢
    by_cases h1:m<t.name.size\/m<t.func.size\/m<t.bytes.size
    ·rw [if_pos h1]at hp;omega
    ·rw [if_neg h1]at hp ⊢
     have hm1: -1<=m-1-(t.name.size:Int)/8-(t.func.size:Int)/8-(t.bytes.size:Int)/8:=by omega
     have hm2:m-1-(t.name.size:Int)/8-(t.func.size:Int)/8-(t.bytes.size:Int)/8<=m-1:=by omega
     generalize m-1-(t.name.size:Int)/8-(t.func.size:Int)/8-(t.bytes.size:Int)/8=m1 at *;have hle:=zfR f t.items m1 hm1;have hle2:=zh1 (zfR f) l (zbS f t.items m1) hle.1;obtain⟨cs,⟨ao,c,_,hs⟩,_⟩:=h t zzg
     have hi:=IH t.items m1 (fun x hx=>by
      obtain⟨j,hj,rfl⟩:=List.getElem_of_mem hx;obtain⟨_,_,_,_,hr⟩:=hs.row hj;obtain⟨cs',_,_,h'⟩:=hr j hj;exact⟨cs',h'⟩) (by omega)
     have hl:=ih (zbS f t.items m1) (fun x hx=>h x (zzh _ hx)) (by simpa [zbS] using hp) hp;have e1:zbR ((t::l).map (zG (f+1)))=(300+t.items.length+zbR (t.items.map (zG f)))+zbR (l.map (zG (f+1))):=rfl;rw [e1,zzq18];omega
theorem zko: ∀(l:List Nat) (x:Nat),x∈l->x<=zbR l
 |[],_,h=>by cases h
 |y::l,x,h=>by
  show x<=y+zbR l;rcases List.mem_cons.1 h with rfl|h
  ·omega
  ·have:=zko l x h;omega
end Go.Proofs.YtijekmeocadkeaaGreatDoor
