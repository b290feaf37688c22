import Derived.Test.YtijekmeocadkeaaGreatDoorW18
import Derived.Test.YtijekmeocadkeaaGreatDoorW19
namespace Go.Proofs.YtijekmeocadkeaaGreatDoor
open Go.RowKit
set_option linter.unusedVariables false
set_option linter.unusedSimpArgs false
set_option maxRecDepth 100000
set_option maxHeartbeats 0
def ze8 (f:Nat) (t:Tm):ByteArray:=⟨(zc9 (f+1) t).toArray⟩
theorem zgc {α:Type} (g:α->List UInt8) {l:List α} {k:Nat} (h:k<l.length):(l.drop k).flatMap g=g l[k]++(l.drop (k+1)).flatMap g:=by
 rw [List.drop_eq_getElem_cons h];rfl
theorem zo7 (f:Nat) (u:RUnit) (lo fo go co:zzA) (lc fc gc cc:Nat) (w:World) (hp:UP w u lo fo go co) (hlits:SlAt w 9 (TmAt w (f+1)) lo u.lits) (hcap: ∀t∈u.lits,(zG (f+1) t:Int)<=1152921504606846976) (hno:zZ (f+1) u=6):
  Calls Tryz.prog 16 #[.agg (zzu u lo lc fo fc go gc co cc)] w fun e w'=>e= .returned (.tuple #[.string ⟨#[]⟩,.int .i64 6])/\Below w.heap.size w w':=by
 unfold zzu;have hba:Below w.heap.size w (w.alloc (.cells (zzu u lo lc fo fc go gc co cc) 27)):=zzE _ _;have hck:=zih f u lo fo go co lc fc gc cc _ (hp.below hba) (hlits.tms hba) hcap;have hbx:=zcJ w u lo fo go co lc fc gc cc;rw [hno]at hck;refine zzK3 hck hba hbx fun HCK HBA HBX=>?_;generalize zb6 (f+1) u=ci at *;clear hck hba hp hlits hcap hno hbx;go_in;go_upto_region 1 with fail;have b0:=HBX.out.c0;have b1:=HBX.out.c1;have b2:=HBX.out.c2;have b3:=HBX.out.c3;have b4:=HBX.out.c4;have b5:=HBX.out.c5;have hlu:=HBX.out.lt;go_wp2_with fail;refine HCK.out.mono ?_;rintro e w5 ⟨rfl,hb5⟩;go_wp2;go_ret2;exact⟨rfl,HBA.out.trans (hb5.mono HBA.out.size)⟩
theorem znM (f:Nat) (u:RUnit) (lo fo go co:zzA) (lc fc gc cc:Nat) (w:World) (hp:UP w u lo fo go co) (hlits:SlAt w 9 (TmAt w (f+1)) lo u.lits) (hcap: ∀t∈u.lits,(zG (f+1) t:Int)<=1152921504606846976) (hyes:zZ (f+1) u=0):
  Calls Tryz.prog 16 #[.agg (zzu u lo lc fo fc go gc co cc)] w fun e w'=>e= .returned (.tuple #[.string ⟨(zbO (ze8 f) u).toArray⟩,.int .i64 0])/\Below w.heap.size w w':=by
 unfold zzu;have hba:Below w.heap.size w (w.alloc (.cells (zzu u lo lc fo fc go gc co cc) 27)):=zzE _ _;have hbx:=zcJ w u lo fo go co lc fc gc cc;have hck:=zih f u lo fo go co lc fc gc cc _ (hp.below hba) (hlits.tms hba) hcap;obtain⟨htab,htb,hins⟩:=zeF hyes;rw [hyes]at hck;have HV:Hid (zbO (ze8 f) u=(zD u.mdl++(zf u.vsn.toNat++(zf u.lits.length++(u.lits.flatMap (fun t=>zD (ze8 f t))++(zf u.funcs.length++(u.funcs.flatMap zbY++(zf u.funs.length++(u.funs.flatMap zbW++(zf u.code.length++(u.code.flatMap zbw++([]:List UInt8)))))))))))):=zzH rfl;refine zzK9 (zds htb) hck hba hbx (hp.below hba) (hlits.tms hba) hcap htab hins fun HVAL HCK HBA HUX HUP HLT HCAP HTB HIN=>?_;have hl1:=htab.mdl;have hl2:=htab.vsn0;have hl3:=htab.vsn1;have hl4:=htab.code1;have hl5:=htab.lits;have hl6:=htab.funcs;have hl7:=htab.funs;generalize zbO (ze8 f) u=WW at *;generalize zb6 (f+1) u=ci at *;clear hck hba hbx hp hlits hcap hyes htab htb hins;go_in;go_upto_region 1 with fail;generalize w.alloc (.cells (zzu u lo lc fo fc go gc co cc) 27)=W0 at *;generalize hBz:w.heap.size=B at *;have HBZ:=zzH hBz;clear hBz;have HFIN:Hid (∀wx,Below W0.heap.size W0 wx->Below B w wx):=zzH (fun wx hh=>HBA.out.trans (hh.mono (by have:=HBA.out.size;have:=HBZ.out;omega)));have b0:=HUX.out.c0;have b1:=HUX.out.c1;have b2:=HUX.out.c2;have b3:=HUX.out.c3;have b4:=HUX.out.c4;have b5:=HUX.out.c5;have hlu:=HUX.out.lt;go_wp2_with fail;refine HCK.out.mono ?_;rintro e w5 ⟨rfl,hb5⟩;have HB:=zzH hb5;clear hb5 HCK b0 b1 b2 b3 b4 b5 hlu;have b0:=(HUX.out.below HB.out).c0;have b1:=(HUX.out.below HB.out).c1;have b2:=(HUX.out.below HB.out).c2;have b3:=(HUX.out.below HB.out).c3;have b4:=(HUX.out.below HB.out).c4;have b5:=(HUX.out.below HB.out).c5;have hlu:=(HUX.out.below HB.out).lt;have h1:=fun wx=>zfm u.mdl wx (by omega)
 have h2:=fun wx=>zbD u.vsn wx (by omega) (by omega)
 have h3:=fun wx=>zcK 9 u.lits.length wx (by omega) (by omega)
 have hA1:=zcC u.mdl;have hA2:=zv u.vsn.toNat;have hA3:=zv u.lits.length;have HV2:Hid (WW=((zD u.mdl++zf u.vsn.toNat)++zf u.lits.length)++(u.lits.flatMap (fun t=>zD (ze8 f t))++(zf u.funcs.length++(u.funcs.flatMap zbY++(zf u.funs.length++(u.funs.flatMap zbW++(zf u.code.length++(u.code.flatMap zbw++([]:List UInt8))))))))):=zzH (by rw [HV.out];simp only [zzq4]);clear HV;generalize zD u.mdl=A1 at *;generalize zf u.vsn.toNat=A2 at *;generalize hA3e:zf u.lits.length=A3 at *;clear hA3e;have hadd:=fun wx=>run_string_add_sum (P:=Tryz.prog) wx ⟨A1.toArray⟩ ⟨A2.toArray⟩ (by rw [bsz,bsz];omega)
 have hadd2:=fun wx=>run_string_add_sum (P:=Tryz.prog) wx (⟨A1.toArray⟩++⟨A2.toArray⟩) ⟨A3.toArray⟩ (by rw [zB,bsz,bsz,zzq1];omega)
 have HBr:=zzH ((zzR w5.heap.size w5).drew);have HKr:=zzH (zY HBr.out);go_upto_region 4 with fail;go_cut [6] (fun s wx=>s= .string ⟨((A1++A2)++A3).toArray⟩/\Hid (Below W0.heap.size W0 wx))
 case first=>
  first|go_region_held3 (fun w'=>w5.heap.size<=w'.heap.size/\ ∀b o,b<w5.heap.size->w'.cell? ⟨b,o,none⟩=w5.cell? ⟨b,o,none⟩) (with_reducible exact HKr.out)
   (first
    |(go_at_call 40;(with_reducible refine(h1 _).mono ?_);rintro e w9 ⟨rfl,hb⟩;have HBr:=zzH (zd HBr.out hb);have HKr:=zzH (zY HBr.out);clear hb)
    |(go_at_call 41;(first|(with_reducible refine(h2 _).mono ?_)|(with_reducible refine(h3 _).mono ?_));rintro e w9 ⟨rfl,hb⟩;have HBr:=zzH (zd HBr.out hb);have HKr:=zzH (zY HBr.out);clear hb))|fail
  all_goals
   go_wp2_with fail;go_meet
   case rel=>exact⟨congrArg Value.string (by rw [zB,zB]),zzH (zd HB.out HBr.out)⟩
 case rest=>
  rename_i wx;obtain⟨rfl,HBc⟩:=hcut;have HB:=HBc;have hp:((A1++A2)++A3).length<=100:=by rw [zzq1,zzq1];omega
  clear b0 b1 b2 b3 b4 b5 hlu h1 h2 h3 hA1 hA2 hA3 hadd hadd2 HBr HKr HBc;generalize(A1++A2)++A3=p at *;have b0:=(HUX.out.below HB.out).c0;have b1:=(HUX.out.below HB.out).c1;have b2:=(HUX.out.below HB.out).c2;have b3:=(HUX.out.below HB.out).c3;have b4:=(HUX.out.below HB.out).c4;have b5:=(HUX.out.below HB.out).c5;have hlu:=(HUX.out.below HB.out).lt;have HV3:Hid (WW=p++((u.lits.drop 0).flatMap (fun t=>zD (ze8 f t))++(zf u.funcs.length++(u.funcs.flatMap zbY++(zf u.funs.length++(u.funs.flatMap zbW++(zf u.code.length++(u.code.flatMap zbw++([]:List UInt8))))))))):=zzH HV2.out;go_wp2_with fail;go_loopw [6,7,8,9] (fun s iv _ _ wr=> ∃(k:Nat) (p2:List UInt8),k<=u.lits.length/\iv= .int .i64 k/\s= .string ⟨p2.toArray⟩/\Hid (WW=p2++((u.lits.drop k).flatMap (fun t=>zD (ze8 f t))++(zf u.funcs.length++(u.funcs.flatMap zbY++(zf u.funs.length++(u.funs.flatMap zbW++(zf u.code.length++(u.code.flatMap zbw++([]:List UInt8)))))))))/\p2.length<=100+4400020*k/\Hid (Below W0.heap.size W0 wr)) (fun s iv _ _ wr=>u.lits.length-(intOf iv).toNat)
  case atStart=>exact⟨0,p,zzZ _,rfl,rfl,HV3,by omega,HB⟩
  case round=>
   obtain⟨k,p2,hk,rfl,rfl,HV3,hp2,HB⟩:=hrel;rename World=>wr
   clear b0 b1 b2 b3 b4 b5 hlu;have b0:=(HUX.out.below HB.out).c0;have b1:=(HUX.out.below HB.out).c1;have b2:=(HUX.out.below HB.out).c2;have b3:=(HUX.out.below HB.out).c3;have b4:=(HUX.out.below HB.out).c4;have b5:=(HUX.out.below HB.out).c5;have hlu:=(HUX.out.below HB.out).lt;by_cases hlt:k<u.lits.length
   ·obtain⟨b2',off2,ai,ci2,hlo,hb2,q0,q1,q2,q3,q4,q5,q6,q7,q8,hit,hok⟩:=(HLT.out.tms HB.out).tm hlt
    subst hlo;have hpt:Calls Tryz.prog 42 #[.agg #[.int .i64 u.lits[k].kind,.int .i64 u.lits[k].int,.int .i64 u.lits[k].gen,.string u.lits[k].name,.string u.lits[k].func,.int .i64 u.lits[k].arity,.slice ai u.lits[k].items.length ci2,.string u.lits[k].bytes,.int .i64 u.lits[k].bits]] wr fun e w'=>e= .returned (.tuple #[.string (ze8 f u.lits[k]),.int .i64 0])/\Below wr.heap.size wr w':=zmK f u.lits[k] ai ci2 wr hit hok (HCAP.out _ (zzM hlt)) (HVAL.out _ (zzM hlt))
    have hel:(ze8 f u.lits[k]).size<=4400001:=by have:=ze5 (HVAL.out _ (zzM hlt));show(zc9 (f+1) u.lits[k]).toArray.size<=_;rw [List.size_toArray];exact this
    have HV4:Hid (WW=(p2++zD (ze8 f u.lits[k]))++((u.lits.drop (k+1)).flatMap (fun t=>zD (ze8 f t))++(zf u.funcs.length++(u.funcs.flatMap zbY++(zf u.funs.length++(u.funs.flatMap zbW++(zf u.code.length++(u.code.flatMap zbw++([]:List UInt8))))))))):=zzH (by rw [HV3.out,zgc _ hlt];simp only [zzq4]);have HPT:=zzH hpt;clear hpt hit hok;generalize ze8 f u.lits[k]=EB at *;generalize u.lits[k]=t at *;have h1:=fun wx=>zfm EB wx (by omega)
    have hA1:=zcC EB;generalize zD EB=A1 at *;have hadd0:=fun wx=>run_string_add_sum (P:=Tryz.prog) wx ⟨p2.toArray⟩ ⟨A1.toArray⟩ (by rw [bsz,bsz];omega)
    go_wp2_with fail;refine HPT.out.mono ?_;rintro e w9 ⟨rfl,hb⟩;go_wp2_with fail;refine(h1 _).mono ?_;rintro e w10 ⟨rfl,hb'⟩;have HB:=zzH (zd (zd HB.out hb) hb');clear hb hb' b0 b1 b2 b3 b4 b5 hlu;exact zz200
   ·have HV4:Hid (WW=(p2++zf u.funcs.length)++(u.funcs.flatMap zbY++(zf u.funs.length++(u.funs.flatMap zbW++(zf u.code.length++(u.code.flatMap zbw++([]:List UInt8))))))):=zzH (by rw [HV3.out,zzq8 (by omega)];simp only [List.flatMap_nil,List.nil_append,zzq4])
    have h1:=fun wx=>zcK 9 u.funcs.length wx (by omega) (by omega)
    have hA1:=zv u.funcs.length;have hp9:p2.length<=290000000000:=by omega
    generalize hA1e:zf u.funcs.length=A1 at *;clear hA1e;have hadd0:=fun wx=>run_string_add_sum (P:=Tryz.prog) wx ⟨p2.toArray⟩ ⟨A1.toArray⟩ (by rw [bsz,bsz];omega)
    obtain⟨wo,rfl⟩: ∃wo:World,wo=wr:=⟨_,rfl⟩;go_wp2_with fail;refine(h1 _).mono ?_;rintro e w9 ⟨rfl,hb⟩;have HB:=zzH (zd HB.out hb);have HV2:=HV4;go_wp2_with fail;have HCATP:Hid ((⟨p2.toArray⟩:ByteArray)++⟨A1.toArray⟩=⟨(p2++A1).toArray⟩):=zzH (zB _ _);have hp:(p2++A1).length<=300000000000:=by rw [zzq1];omega
    clear hb h1 hA1 HV3 HV4 hp2 hp9 hadd0;generalize p2++A1=p at *;have HV3:Hid (WW=p++((u.funcs.drop 0).flatMap zbY++(zf u.funs.length++(u.funs.flatMap zbW++(zf u.code.length++(u.code.flatMap zbw++([]:List UInt8))))))):=zzH HV2.out
    skip
    go_loopw [6,10,11] (fun s iv _ wr=> ∃(k:Nat) (p2:List UInt8),k<=u.funcs.length/\iv= .int .i64 k/\s= .string ⟨p2.toArray⟩/\Hid (WW=p2++((u.funcs.drop k).flatMap zbY++(zf u.funs.length++(u.funs.flatMap zbW++(zf u.code.length++(u.code.flatMap zbw++([]:List UInt8)))))))/\p2.length<=300000000000+100*k/\Hid (Below W0.heap.size W0 wr)) (fun s iv _ wr=>u.funcs.length-(intOf iv).toNat)
    case atStart=>exact⟨0,p,zzZ _,rfl,congrArg Value.string (HCATP.out),HV3,by omega,HB⟩
    case round=>
     obtain⟨k,p2,hk,rfl,rfl,HV3,hp2,HB⟩:=hrel;rename World=>wr
     clear b0 b1 b2 b3 b4 b5 hlu;have b0:=(HUX.out.below HB.out).c0;have b1:=(HUX.out.below HB.out).c1;have b2:=(HUX.out.below HB.out).c2;have b3:=(HUX.out.below HB.out).c3;have b4:=(HUX.out.below HB.out).c4;have b5:=(HUX.out.below HB.out).c5;have hlu:=(HUX.out.below HB.out).lt;by_cases hlt:k<u.funcs.length
     ·obtain⟨b1',off1,hfo,hb1,s0,s1,s2,s3,t0,t1,t2⟩:=(HUP.out.funcs.mono HB.out fun _ _ h=>h).func hlt
      subst hfo;obtain⟨z1,z2,z3,z4,z5⟩:=HTB.out.func _ (zzM hlt);have h1:=fun wx=>zfm u.funcs[k].name wx (by omega)
      have h2:=fun wx=>zbD u.funcs[k].arity wx z2 (by omega)
      have h3:=fun wx=>zie u.funcs[k].pub wx
      have h4:=fun wx=>zbD u.funcs[k].entry wx z4 (by omega)
      have hA1:=zcC u.funcs[k].name;have hA2:=zv u.funcs[k].arity.toNat;have hA3:=zeM u.funcs[k].pub;have hA4:=zv u.funcs[k].entry.toNat;have HV4:Hid (WW=((((p2++zD u.funcs[k].name)++zf u.funcs[k].arity.toNat)++zde u.funcs[k].pub)++zf u.funcs[k].entry.toNat)++((u.funcs.drop (k+1)).flatMap zbY++(zf u.funs.length++(u.funs.flatMap zbW++(zf u.code.length++(u.code.flatMap zbw++([]:List UInt8))))))):=zzH (by rw [HV3.out,zgc _ hlt];unfold zbY;simp only [zzq4]);clear z2 z3 z4 z5 t0 t1 t2;generalize zD u.funcs[k].name=A1 at *;generalize zf u.funcs[k].arity.toNat=A2 at *;generalize zde u.funcs[k].pub=A3 at *;generalize zf u.funcs[k].entry.toNat=A4 at *;generalize u.funcs[k]=fn at *;obtain⟨fnm,far,fpb,fen⟩:=fn;simp only at *;have hbx:Below wr.heap.size wr (wr.alloc (.cells #[.string fnm,.int .i64 far,.bool fpb,.int .i64 fen] 57)):=zzE _ _;have hbr:=zzF wr (.cells #[.string fnm,.int .i64 far,.bool fpb,.int .i64 fen] 57);have HB:=zzH (zd HB.out hbx);clear hbx;have hadd0:=fun wx=>run_string_add_sum (P:=Tryz.prog) wx (⟨p2.toArray⟩) ⟨A1.toArray⟩ (by rw [bsz,bsz];omega)
      have hadd1:=fun wx=>run_string_add_sum (P:=Tryz.prog) wx (⟨p2.toArray⟩++⟨A1.toArray⟩) ⟨A2.toArray⟩ (by rw [zB,bsz,bsz,zzq1];omega)
      have hadd2:=fun wx=>run_string_add_sum (P:=Tryz.prog) wx (⟨p2.toArray⟩++⟨A1.toArray⟩++⟨A2.toArray⟩) ⟨A3.toArray⟩ (by rw [zB,zB,bsz,bsz,zzq1,zzq1];omega)
      have hadd3:=fun wx=>run_string_add_sum (P:=Tryz.prog) wx (⟨p2.toArray⟩++⟨A1.toArray⟩++⟨A2.toArray⟩++⟨A3.toArray⟩) ⟨A4.toArray⟩ (by rw [zB,zB,zB,bsz,bsz,zzq1,zzq1,zzq1];omega)
      go_upto_region 15 with fail;clear b0 b1 b2 b3 b4 b5 hlu s0 s1 s2 s3;generalize wr.alloc (.cells #[.string fnm,.int .i64 far,.bool fpb,.int .i64 fen] 57)=Wg at *;generalize wr.heap.size=G at *;obtain⟨g0,g1,g2,g3⟩:=znw hbr;have hlg:=zc hbr;clear hbr;have HBr:=zzH ((zzR Wg.heap.size Wg).drew);have HKr:=zzH (zY HBr.out)
      first|go_region_held3 (fun w'=>Wg.heap.size<=w'.heap.size/\ ∀b o,b<Wg.heap.size->w'.cell? ⟨b,o,none⟩=Wg.cell? ⟨b,o,none⟩) (with_reducible exact HKr.out) (first|(go_at_call 40;(with_reducible refine(h1 _).mono ?_);rintro e w9 ⟨rfl,hb⟩;have HBr:=zzH (zd HBr.out hb);have HKr:=zzH (zY HBr.out);clear hb)|(go_at_call 41;(first|(with_reducible refine(h2 _).mono ?_)|(with_reducible refine(h4 _).mono ?_));rintro e w9 ⟨rfl,hb⟩;have HBr:=zzH (zd HBr.out hb);have HKr:=zzH (zY HBr.out);clear hb)|(go_at_call 43;(with_reducible refine(h3 _).mono ?_);rintro e w9 ⟨rfl,hb⟩;have HBr:=zzH (zd HBr.out hb);have HKr:=zzH (zY HBr.out);clear hb))|fail
      all_goals
       have HB:=zzH (zd HB.out HBr.out);clear g0 g1 g2 g3 hlg;go_wp2_with fail;go_roundw
       case rel=>exact⟨k+1,(((p2++A1)++A2)++A3)++A4,by omega,by go_num,congrArg Value.string (by rw [zB,zB,zB,zB]),HV4,by rw [zzq1,zzq1,zzq1,zzq1];omega,HB⟩
       case measure=>simp [intOf];omega
     ·have HV4:Hid (WW=(p2++zf u.funs.length)++(u.funs.flatMap zbW++(zf u.code.length++(u.code.flatMap zbw++([]:List UInt8))))):=zzH (by rw [HV3.out,zzq8 (by omega)];simp only [List.flatMap_nil,List.nil_append,zzq4])
      have h1:=fun wx=>zcK 9 u.funs.length wx (by omega) (by omega)
      have hA1:=zv u.funs.length;have hp9:p2.length<=300000025000:=by omega
      generalize hA1e:zf u.funs.length=A1 at *;clear hA1e;have hadd0:=fun wx=>run_string_add_sum (P:=Tryz.prog) wx ⟨p2.toArray⟩ ⟨A1.toArray⟩ (by rw [bsz,bsz];omega)
      obtain⟨wo,rfl⟩: ∃wo:World,wo=wr:=⟨_,rfl⟩;go_wp2_with fail;refine(h1 _).mono ?_;rintro e w9 ⟨rfl,hb⟩;have HB:=zzH (zd HB.out hb);have HV2:=HV4;go_wp2_with fail;have HCATP:Hid ((⟨p2.toArray⟩:ByteArray)++⟨A1.toArray⟩=⟨(p2++A1).toArray⟩):=zzH (zB _ _);have hp:(p2++A1).length<=300000100000:=by rw [zzq1];omega
      clear hb h1 hA1 HV3 HV4 hp2 hp9 hadd0;generalize p2++A1=p at *;have HV3:Hid (WW=p++((u.funs.drop 0).flatMap zbW++(zf u.code.length++(u.code.flatMap zbw++([]:List UInt8))))):=zzH HV2.out
      skip
      go_loopw [6,12] (fun s iv wr=> ∃(k:Nat) (p2:List UInt8),k<=u.funs.length/\iv= .int .i64 k/\s= .string ⟨p2.toArray⟩/\Hid (WW=p2++((u.funs.drop k).flatMap zbW++(zf u.code.length++(u.code.flatMap zbw++([]:List UInt8)))))/\p2.length<=300000100000+100*k/\Hid (Below W0.heap.size W0 wr)) (fun s iv wr=>u.funs.length-(intOf iv).toNat)
      case atStart=>exact⟨0,p,zzZ _,rfl,congrArg Value.string (HCATP.out),HV3,by omega,HB⟩
      case round=>
       obtain⟨k,p2,hk,rfl,rfl,HV3,hp2,HB⟩:=hrel;rename World=>wr
       clear b0 b1 b2 b3 b4 b5 hlu;have b0:=(HUX.out.below HB.out).c0;have b1:=(HUX.out.below HB.out).c1;have b2:=(HUX.out.below HB.out).c2;have b3:=(HUX.out.below HB.out).c3;have b4:=(HUX.out.below HB.out).c4;have b5:=(HUX.out.below HB.out).c5;have hlu:=(HUX.out.below HB.out).lt;by_cases hlt:k<u.funs.length
       ·obtain⟨b1',off1,hfo,hb1,s0,s1,s2,t0,t1,t2⟩:=(HUP.out.funs.mono HB.out fun _ _ h=>h).fn hlt
        subst hfo;obtain⟨z1,z2,z3,z4,z5,z6⟩:=HTB.out.fn _ (zzM hlt);have h1:=fun wx=>zbD u.funs[k].arity wx z1 (by omega)
        have h2:=fun wx=>zbD u.funs[k].free wx z3 (by omega)
        have h3:=fun wx=>zbD u.funs[k].entry wx z5 (by omega)
        have hA1:=zv u.funs[k].arity.toNat;have hA2:=zv u.funs[k].free.toNat;have hA3:=zv u.funs[k].entry.toNat;have HV4:Hid (WW=(((p2++zf u.funs[k].arity.toNat)++zf u.funs[k].free.toNat)++zf u.funs[k].entry.toNat)++((u.funs.drop (k+1)).flatMap zbW++(zf u.code.length++(u.code.flatMap zbw++([]:List UInt8))))):=zzH (by rw [HV3.out,zgc _ hlt];unfold zbW;simp only [zzq4]);clear z1 z2 z3 z4 z5 z6 t0 t1 t2;generalize zf u.funs[k].arity.toNat=A1 at *;generalize zf u.funs[k].free.toNat=A2 at *;generalize zf u.funs[k].entry.toNat=A3 at *;generalize u.funs[k]=fn at *;obtain⟨far,ffr,fen⟩:=fn;simp only at *;have hadd0:=fun wx=>run_string_add_sum (P:=Tryz.prog) wx (⟨p2.toArray⟩) ⟨A1.toArray⟩ (by rw [bsz,bsz];omega)
        have hadd1:=fun wx=>run_string_add_sum (P:=Tryz.prog) wx (⟨p2.toArray⟩++⟨A1.toArray⟩) ⟨A2.toArray⟩ (by rw [zB,bsz,bsz,zzq1];omega)
        have hadd2:=fun wx=>run_string_add_sum (P:=Tryz.prog) wx (⟨p2.toArray⟩++⟨A1.toArray⟩++⟨A2.toArray⟩) ⟨A3.toArray⟩ (by rw [zB,zB,bsz,bsz,zzq1,zzq1];omega)
        have HBr:=zzH ((zzR wr.heap.size wr).drew);have HKr:=zzH (zY HBr.out);have hk0:(0:Int)<=(k:Int):=by omega
        have hk1:(k:Int)<(u.funs.length:Int):=by omega
        go_wp2_with fail
        first|go_region_held3 (fun w'=>wr.heap.size<=w'.heap.size/\ ∀b o,b<wr.heap.size->w'.cell? ⟨b,o,none⟩=wr.cell? ⟨b,o,none⟩) (with_reducible exact HKr.out) ((go_at_call 41;(first|(with_reducible refine(h1 _).mono ?_)|(with_reducible refine(h2 _).mono ?_)|(with_reducible refine(h3 _).mono ?_));rintro e w9 ⟨rfl,hb⟩;have HBr:=zzH (zd HBr.out hb);have HKr:=zzH (zY HBr.out);clear hb))|fail
        all_goals
         have HB:=zzH (zd HB.out HBr.out);clear b0 b1 b2 b3 b4 b5 hlu;go_wp2_with fail;go_roundw
         case rel=>exact⟨k+1,((p2++A1)++A2)++A3,by omega,by go_num,congrArg Value.string (by rw [zB,zB,zB]),HV4,by rw [zzq1,zzq1,zzq1];omega,HB⟩
         case measure=>simp [intOf];omega
       ·have HV4:Hid (WW=(p2++zf u.code.length)++(u.code.flatMap zbw++([]:List UInt8))):=zzH (by rw [HV3.out,zzq8 (by omega)];simp only [List.flatMap_nil,List.nil_append,zzq4])
        have h1:=fun wx=>zcK 9 u.code.length wx (by omega) (by omega)
        have hA1:=zv u.code.length;have hp9:p2.length<=300000250000:=by omega
        generalize hA1e:zf u.code.length=A1 at *;clear hA1e;have hadd0:=fun wx=>run_string_add_sum (P:=Tryz.prog) wx ⟨p2.toArray⟩ ⟨A1.toArray⟩ (by rw [bsz,bsz];omega)
        obtain⟨wo,rfl⟩: ∃wo:World,wo=wr:=⟨_,rfl⟩;go_wp2_with fail;refine(h1 _).mono ?_;rintro e w9 ⟨rfl,hb⟩;have HB:=zzH (zd HB.out hb);have HV2:=HV4;go_wp2_with fail;have HCATP:Hid ((⟨p2.toArray⟩:ByteArray)++⟨A1.toArray⟩=⟨(p2++A1).toArray⟩):=zzH (zB _ _);have hp:(p2++A1).length<=300000300000:=by rw [zzq1];omega
        clear hb h1 hA1 HV3 HV4 hp2 hp9 hadd0;generalize p2++A1=p at *;have HV3:Hid (WW=p++((u.code.drop 0).flatMap zbw++([]:List UInt8))):=zzH HV2.out
        skip
        go_loopw [6,13] (fun s iv wr=> ∃(k:Nat) (p2:List UInt8),k<=u.code.length/\iv= .int .i64 k/\s= .string ⟨p2.toArray⟩/\Hid (WW=p2++((u.code.drop k).flatMap zbw++([]:List UInt8)))/\p2.length<=300000300000+100000*k/\Hid (Below W0.heap.size W0 wr)) (fun s iv wr=>u.code.length-(intOf iv).toNat)
        case atStart=>exact⟨0,p,zzZ _,rfl,congrArg Value.string (HCATP.out),HV3,by omega,HB⟩
        case round=>
         obtain⟨k,p2,hk,rfl,rfl,HV3,hp2,HB⟩:=hrel;rename World=>wr
         clear b0 b1 b2 b3 b4 b5 hlu;have b0:=(HUX.out.below HB.out).c0;have b1:=(HUX.out.below HB.out).c1;have b2:=(HUX.out.below HB.out).c2;have b3:=(HUX.out.below HB.out).c3;have b4:=(HUX.out.below HB.out).c4;have b5:=(HUX.out.below HB.out).c5;have hlu:=(HUX.out.below HB.out).lt;by_cases hlt:k<u.code.length
         ·obtain⟨bc,oc,so,co',go',sc,cc',gc',hco,hxb⟩:=zfd (HUP.out.below HB.out).code hlt
          subst hco;have k0:=hxb.c0;have k1:=hxb.c1;have k2:=hxb.c2;have k3:=hxb.c3;have k4:=hxb.c4;have k5:=hxb.c5;have k6:=hxb.c6;have k7:=hxb.c7;have k8:=hxb.c8;have k9:=hxb.c9;have hkl:=hxb.lt;have hi:=HIN.out k hlt;have hwi:=zig HTB.out hi
          have hop:1<=u.code[k].op/\u.code[k].op<=40:=by
           unfold zep at hi;rw [zzq6]at hi;have:=hi.1;unfold zdi at this;exact zza this
          have h1:Calls Tryz.prog 44 _ wr fun e w'=>e= .returned (.string ⟨(zbw u.code[k]).toArray⟩)/\Below wr.heap.size wr w':=zkk u.code[k] so co' go' sc cc' gc' wr hxb.src hxb.cases hxb.segs hop hwi
          have hA1:(zbw u.code[k]).length<=100000:=zgx hwi;have HV4:Hid (WW=(p2++zbw u.code[k])++((u.code.drop (k+1)).flatMap zbw++([]:List UInt8))):=zzH (by rw [HV3.out,zgc _ hlt];simp only [zzq4]);have H1:=zzH h1;clear hi hwi hop h1 hxb;generalize zbw u.code[k]=A1 at *;generalize u.code[k]=x at *;have hadd0:=fun wx=>run_string_add_sum (P:=Tryz.prog) wx ⟨p2.toArray⟩ ⟨A1.toArray⟩ (by rw [bsz,bsz];omega)
          go_wp2_with fail;refine H1.out.mono ?_;rintro e w9 ⟨rfl,hb⟩;have HB:=zzH (zd HB.out hb);clear hb b0 b1 b2 b3 b4 b5 hlu;exact zz200
         ·have HV4:Hid (WW=p2):=zzH (by rw [HV3.out,zzq8 (by omega)];simp only [List.flatMap_nil,List.nil_append,List.append_nil])
          go_wp2;go_ret2;exact⟨congrArg (fun l:List UInt8=>Ending.returned (.tuple #[.string ⟨l.toArray⟩,.int .i64 0])) HV4.out.symm,by rw [HBZ.out];exact HFIN.out _ HB.out⟩
end Go.Proofs.YtijekmeocadkeaaGreatDoor
