/- part 8 -/
import Derived.Test.YtlaabicdhkebbaaGreatDoorGetsAll05
import Derived.Test.YtlaabicdhkebbaaGreatDoorGetsAll06
namespace Go.Proofs.YtlaabicdhkebbaaGreatDoor
open Go.RowKit
set_option linter.unusedVariables false
set_option linter.unusedSimpArgs false
set_option maxRecDepth 100000
set_option maxHeartbeats 80000000
def zbR (x:RIns):List UInt8:=zeo (zw x.op).1.toNat x
def zeu (enc:Tm->ByteArray) (u:RUnit):List UInt8:=zJ u.mdl++(zg u.vsn.toNat++(zg u.lits.length++(u.lits.flatMap (fun t=>zJ (enc t))++(zg u.funcs.length++(u.funcs.flatMap zcI++(zg u.funs.length++(u.funs.flatMap zcB++(zg u.code.length++(u.code.flatMap zbR++ [])))))))))
theorem zf0 {α:Type} (g:α->List UInt8) (l:List α) {k:Nat} (h:k<l.length):(l.drop k).flatMap g=g l[k]++(l.drop (k+1)).flatMap g:=by
 rw [List.drop_eq_getElem_cons h];rfl
theorem zfF (n:Nat):zg n≠ []:=by
 show zce (9+1) n≠ [];rw [zce];split<;>simp
theorem zhO (s:ByteArray):zJ s≠ []:=fun h=>zfF s.size (List.append_eq_nil_iff.1 h).1
theorem zpE (enc:Tm->ByteArray) (u:RUnit):zeu enc u≠ []:=fun h=>zhO u.mdl (List.append_eq_nil_iff.1 h).1
theorem zq1 {w:World} {B:Nat} {bv:Value} {l:List UInt8} (h:w.ownsRow B 5 1 bv l.length (zy l)) (hne:l≠ []):(convert 74 9 bv).run Tryz.prog w= .ok (.string ⟨l.toArray⟩) w:=by
 rcases h.2 with⟨_,h0⟩|⟨g,cap,cur,rfl,_,hg,hc,_,hsz,htk⟩
 ·exact absurd (List.eq_nil_of_length_eq_zero h0) hne
 ·refine run_convert_bytes_back (P:=Tryz.prog) w 74 9 5 ⟨g,0,none⟩ cap l Tryz.underlying74 Tryz.underlying5 Tryz.underlying9 (fun j hj=>?_)
  have ha:(⟨g,0,none⟩:Addr).add j=⟨g,j,none⟩:=by unfold Addr.add;split<;>simp_all
  rw [ha,zzq2 _ _ _ _ _ _ hg];have:(cur.toList.take (l.length*1))[j]?=(zy l)[j]?:=by rw [htk]
  rw [List.getElem?_take_of_lt (by omega)]at this;simp [zy,zzq8 hj]at this
  simpa using this
def zr6 (enc:Tm->ByteArray) (f:Nat) (u:RUnit):Prop:= ∀t∈u.lits,(enc t).size<=10000000/\ ∀(ai:Option Addr) (c:Nat) (w:World),SlAt w 9 (TmAt w f) ai t.items->t.Ok ->
 Calls Tryz.prog 28 #[.agg #[.int .i64 t.kind,.int .i64 t.int,.int .i64 t.gen,.string t.name,.string t.func,.int .i64 t.arity,.slice ai t.items.length c,.string t.bytes,.int .i64 t.bits]] w fun e w'=>e= .returned (.tuple #[.string (enc t),.int .i64 0])/\Below w.heap.size w w'
theorem zrS (enc:Tm->ByteArray) (f:Nat) (u:RUnit) (lo fo go co:Option Addr) (lc fc gc cc:Nat) (w:World) (hrows:RowsAt w) (hsp:SpaceAt w) (hp:UP w u lo fo go co) (hlits:SlAt w 9 (TmAt w (f+1)) lo u.lits) (hcap: ∀t∈u.lits,(zR (f+1) t:Int)<=1152921504606846976) (hnm: ∀x∈u.code,x.name.size<=140737488355328) (hwire:zr6 enc f u) (hyes:zbt (f+1) u=0):
  Calls Tryz.prog 8 #[.agg (zzu u lo lc fo fc go gc co cc)] w fun e w'=>e= .returned (.tuple #[.string ⟨(zeu enc u).toArray⟩,.int .i64 0])/\Below w.heap.size w w':=by
 unfold zzu;have hba:Below w.heap.size w (w.alloc (.cells (zzu u lo lc fo fc go gc co cc) 28)):=(zzR _ _).alloc (zzL _) _;have hbx:=zdQ w u lo fo go co lc fc gc cc;have hck:=ziS f u lo fo go co lc fc gc cc _ (hrows.below hba) (hsp.below hba) (hp.below hba) (hlits.tms hba) hcap hnm;obtain⟨htab,_,hins⟩:=zj5 hyes;rw [hyes]at hck;have HCK:=zzH hck;have HBA:=zzH hba;have HBX:=zzH hbx;have HRW:=zzH (hrows.below hba);have HUP:=zzH (hp.below hba);have HLT:=zzH (hlits.tms hba);have HTB:=zzH htab;have HIN:=zzH hins;have HWI:=zzH hwire;have HE:Hid (zeu enc u= []++(zJ u.mdl++(zg u.vsn.toNat++(zg u.lits.length++(u.lits.flatMap (fun t=>zJ (enc t))++(zg u.funcs.length++(u.funcs.flatMap zcI++(zg u.funs.length++(u.funs.flatMap zcB++(zg u.code.length++(u.code.flatMap zbR++ []))))))))))):=zzH rfl;have HNE:=zzH (zpE enc u);generalize zeu enc u=W at *;generalize zco (f+1) u=ci at *;clear hck hba hbx hrows hsp hp hlits hcap hnm hyes htab hins hwire;go_in;go_wp2_with fail;generalize w.alloc (.cells (zzu u lo lc fo fc go gc co cc) 28)=Wa at *;generalize hB0:w.heap.size=B0 at *;have HBE:=zzH hB0;clear hB0;refine HCK.out.mono ?_;rintro e w5 ⟨rfl,hb5⟩;have HB5:=zzH hb5;have hux5:=HBX.out.below hb5;clear hb5;go_upto_region 5 with fail;have hst0:=heap_alloc_new w5 (.cells #[.slice none 0 0] 76);have hb6:Below w5.heap.size w5 (w5.alloc (.cells #[.slice none 0 0] 76)):=(zzR _ _).alloc (zzL _) _;have HW0:Hid (WrAt w5.heap.size w5.heap.size [] (w5.alloc (.cells #[.slice none 0 0] 76))):=zzH ⟨zzL _,hb6.size,_,hst0,⟨rfl,.inl ⟨rfl,rfl⟩⟩,by intro h;cases h⟩;have HB6:=zzH hb6;have HUX:=zzH hux5;clear hst0 hb6 hux5;generalize w5.alloc (.cells #[.slice none 0 0] 76)=W6 at *;have HUP5:=zzH (HUP.out.below HB5.out);have HLT5:=zzH (HLT.out.tms HB5.out);have hux:=HUX.out.below HB6.out;have d0:=hux.c0;have hlt0:=HUX.out.lt;have hlt6:=hux.lt;clear hux;have hml:=zdo u.mdl;have hms:=HTB.out.mdl;have hv1:=zE u.vsn.toNat;have hv2:=zE u.lits.length;have hl1:=HTB.out.lits;go_wp2_with fail;refine(zgc w5.heap.size w5.heap.size [] u.mdl _ HW0.out (by omega) (by decide)).mono ?_;rintro e w7 ⟨rfl,h7,hb7,hs7⟩;rw [List.nil_append]at h7;have HW7:=zzH h7;have HB7:=zzH (HB6.out.trans hb7);clear h7 hb7 hs7 d0;have d1:=(HUX.out.below HB7.out).c1;go_wp2_with fail;refine(zbD w5.heap.size w5.heap.size (zJ u.mdl) u.vsn _ HW7.out (by have:=HTB.out.vsn0;omega) (by have:=HTB.out.vsn1;omega) (by omega)).mono ?_;rintro e w8 ⟨rfl,h8,hb8,hs8⟩;have HW8:=zzH h8;have HB8:=zzH (HB7.out.trans hb8);clear h8 hb8 hs8 d1;have d2:=(HUX.out.below HB8.out).c2;go_wp2_with fail;refine(zbD w5.heap.size w5.heap.size (zJ u.mdl++zg u.vsn.toNat) (u.lits.length:Int) _ HW8.out (by omega) (by omega) (by rw [zzq1];omega)).mono ?_;rintro e w9 ⟨rfl,h9,hb9,hs9⟩;rw [zzq11]at h9;have hpl:((zJ u.mdl++zg u.vsn.toNat)++zg u.lits.length).length<=100:=by rw [zzq1,zzq1];omega
 have HP:Hid (W=((zJ u.mdl++zg u.vsn.toNat)++zg u.lits.length)++(u.lits.flatMap (fun t=>zJ (enc t))++(zg u.funcs.length++(u.funcs.flatMap zcI++(zg u.funs.length++(u.funs.flatMap zcB++(zg u.code.length++(u.code.flatMap zbR++ [])))))))):=zzH (by rw [HE.out];simp only [zzq4,List.nil_append]);have HWp:=zzH h9;have HBp:=zzH (HB8.out.trans hb9);clear h9 hb9 hs9 d2 HW0 HB6 HW7 HB7 HW8 HB8 HE hlt6 hml hms;have d2:=(HUX.out.below HBp.out).c2;generalize(zJ u.mdl++zg u.vsn.toNat)++zg u.lits.length=p at *;have hlen:=HTB.out.lits;have HQ:Hid (W=p++((u.lits.drop 0).flatMap (fun t=>zJ (enc t))++(zg u.funcs.length++(u.funcs.flatMap zcI++(zg u.funs.length++(u.funs.flatMap zcB++(zg u.code.length++(u.code.flatMap zbR++ [])))))))):=zzH (by rw [HP.out,List.drop_zero]);clear HP;go_wp2_with fail;go_loopw [42] (fun iv wr=> ∃(k:Nat) (p':List UInt8),k<=u.lits.length/\iv= .int .i64 k/\Hid (W=p'++((u.lits.drop k).flatMap (fun t=>zJ (enc t))++(zg u.funcs.length++(u.funcs.flatMap zcI++(zg u.funs.length++(u.funs.flatMap zcB++(zg u.code.length++(u.code.flatMap zbR++ []))))))))/\p'.length<=p.length+10000010*k/\Hid (WrAt w5.heap.size w5.heap.size p' wr)/\Hid (Below w5.heap.size w5 wr)) (fun iv _=>u.lits.length-(intOf iv).toNat)
 case atStart=>exact⟨0,p,zzZ _,rfl,HQ,by omega,HWp,HBp⟩
 case round=>
  obtain⟨k,p',hk,rfl,HK,hpk,HWk,HBk⟩:=hrel;rename World=>wr
  clear HWp HBp;by_cases hlt:k<u.lits.length
  ·obtain⟨b2,off,ai,ci2,hao,hb2,q0,q1,q2,q3,q4,q5,q6,q7,q8,hit,hok⟩:=(HLT5.out.tms HBk.out).tm hlt
   subst hao;have HST:=zzH (zf0 (fun t=>zJ (enc t)) u.lits hlt);have hwt:=HWI.out _ (List.getElem_mem hlt);generalize u.lits[k]=t at *;have hsz:=hwt.1;have HPT:=zzH hwt.2;have HIT:=zzH hit;have HOK:=zzH hok;clear hwt hit hok;have hba:=(zzR wr.heap.size wr).alloc (zzL _) (.cells #[.int .i64 t.kind,.int .i64 t.int,.int .i64 t.gen,.string t.name,.string t.func,.int .i64 t.arity,.slice ai t.items.length ci2,.string t.bytes,.int .i64 t.bits] 47);have HBA:=zzH hba;clear hba;go_wp2_with fail;refine(HPT.out ai ci2 _ (HIT.out.tms HBA.out) HOK.out).mono ?_;rintro e w10 ⟨rfl,hb10⟩;have HB10:=zzH (ze HBA.out hb10);clear hb10;have hal:=zdo (enc t);go_wp2_with fail;refine(zgc w5.heap.size w5.heap.size p' (enc t) _ (HWk.out.next HB10.out) (by omega) (by omega)).mono ?_;rintro e w11 ⟨rfl,h11,hb11,hs11⟩;go_wp2_with fail;go_roundw
   case rel=>exact⟨k+1,p'++zJ (enc t),by omega,by go_num,zzH (by rw [HK.out,HST.out];simp only [zzq4]),by rw [zzq1];omega,zzH h11,zzH ((HBk.out.trans (HB10.out.mono HBk.out.size)).trans hb11)⟩
   case measure=>simp [intOf];omega
  ·have HZ:Hid (W=p'++(zg u.funcs.length++(u.funcs.flatMap zcI++(zg u.funs.length++(u.funs.flatMap zcB++(zg u.code.length++(u.code.flatMap zbR++ []))))))):=zzH (by rw [HK.out,zzq6 (by omega)];rfl)
   have hnl:=zE u.funcs.length;have hz:=HTB.out.lits;have hzl:=HTB.out.funcs;have hp2:p'.length<=655350655450:=by omega
   have e3:=(HUX.out.below HBk.out).c3;go_wp2_with fail;refine(zbD w5.heap.size w5.heap.size p' (u.funcs.length:Int) _ HWk.out (by omega) (by omega) (by omega)).mono ?_;rintro e wn ⟨rfl,hn,hbn,hsn⟩;rw [zzq11]at hn;have HP:Hid (W=(p'++zg u.funcs.length)++(u.funcs.flatMap zcI++(zg u.funs.length++(u.funs.flatMap zcB++(zg u.code.length++(u.code.flatMap zbR++ [])))))):=zzH (by rw [HZ.out];simp only [zzq4]);have hpl1:(p'++zg u.funcs.length).length<=655350655460:=by rw [zzq1];omega
   have HWp:=zzH hn;have HBp:=zzH (HBk.out.trans hbn);have e4:=(HUX.out.below HBp.out).c3;clear hn hbn hsn e3 HZ HK hpk hpl hp2 hnl hz hzl HWk HBk;clear HQ hlen hk hlt;generalize hpq:p'++zg u.funcs.length=p1 at *;clear hpq;have hlen:=HTB.out.funcs;have HQ:Hid (W=p1++((u.funcs.drop 0).flatMap zcI++(zg u.funs.length++(u.funs.flatMap zcB++(zg u.code.length++(u.code.flatMap zbR++ [])))))):=zzH (by rw [HP.out,List.drop_zero]);clear HP;go_wp2_with fail;go_loopw [65] (fun iv wr=> ∃(k:Nat) (pp1:List UInt8),k<=u.funcs.length/\iv= .int .i64 k/\Hid (W=pp1++((u.funcs.drop k).flatMap zcI++(zg u.funs.length++(u.funs.flatMap zcB++(zg u.code.length++(u.code.flatMap zbR++ []))))))/\pp1.length<=p1.length+72*k/\Hid (WrAt w5.heap.size w5.heap.size pp1 wr)/\Hid (Below w5.heap.size w5 wr)) (fun iv _=>u.funcs.length-(intOf iv).toNat)
   case atStart=>exact⟨0,p1,zzZ _,rfl,HQ,by omega,HWp,HBp⟩
   case round=>
    obtain⟨k,pp1,hk,rfl,HK,hpk,HWk,HBk⟩:=hrel;rename World=>wr1
    clear HWp HBp;by_cases hlt:k<u.funcs.length
    ·obtain⟨b2,off,hao,hb2,q0,q1,q2,q3,r0,r1,r2⟩:=((HUP5.out.below HBk.out).funcs).func hlt
     subst hao;have HST:=zzH (zf0 zcI u.funcs hlt);have HAW:=zzH (HTB.out.func _ (List.getElem_mem hlt));clear r0 r1 r2;generalize u.funcs[k]=a at *;have hba:=(zzR wr1.heap.size wr1).alloc (zzL _) (.cells #[.string a.name,.int .i64 a.arity,.bool a.pub,.int .i64 a.entry] 51);have hLc:=heap_alloc_new wr1 (.cells #[.string a.name,.int .i64 a.arity,.bool a.pub,.int .i64 a.entry] 51);have HBA:=zzH hba;have HL1:=zzH hLc;clear hba hLc;have H1:=zzH (HWk.out.next HBA.out);have hal1:=zdo a.name;have hal2:=zE a.arity.toNat;have hal3:=zfl a.pub;have hal4:=zE a.entry.toNat;have hns:=HAW.out.1;go_wp2_with fail;refine(zgc w5.heap.size w5.heap.size pp1 a.name _ H1.out (by omega) (by omega)).mono ?_;rintro e x2 ⟨rfl,h2,hbb2,hs2⟩;have H2:=zzH h2;have HB2:=zzH hbb2;have HL2:=zzH (hs2 _ _ _ _ HL1.out (by decide) (by decide));clear h2 hbb2 hs2;have g1:x2.cell? ⟨wr1.heap.size,1,none⟩=some (.int .i64 a.arity):=by rw [zzq2 _ _ _ _ _ _ HL2.out];rfl
     go_wp2_with fail;refine(zbD w5.heap.size w5.heap.size (pp1++zJ a.name) a.arity _ H2.out HAW.out.2.1 (Int.le_trans HAW.out.2.2.1 (by decide)) (by(try simp only [zzq1]);omega)).mono ?_;rintro e x3 ⟨rfl,h3,hb3,hs3⟩;have H3:=zzH h3;have HB3:=zzH hb3;have HS3:=zzH hs3;have HL3:=zzH (hs3 _ _ _ _ HL2.out (by decide) (by decide));clear h3 hb3 hs3;clear g1;have g2:x3.cell? ⟨wr1.heap.size,2,none⟩=some (.bool a.pub):=by rw [zzq2 _ _ _ _ _ _ HL3.out];rfl
     go_wp2_with fail;refine(zjf w5.heap.size w5.heap.size ((pp1++zJ a.name)++zg a.arity.toNat) a.pub _ H3.out (by(try simp only [zzq1]);omega)).mono ?_;rintro e x4 ⟨rfl,h4,hb4,hs4⟩;have H4:=zzH h4;have HB4:=zzH hb4;have HS4:=zzH hs4;have HL4:=zzH (hs4 _ _ _ _ HL3.out (by decide) (by decide));clear h4 hb4 hs4;clear g2;have g3:x4.cell? ⟨wr1.heap.size,3,none⟩=some (.int .i64 a.entry):=by rw [zzq2 _ _ _ _ _ _ HL4.out];rfl
     go_wp2_with fail;refine(zbD w5.heap.size w5.heap.size (((pp1++zJ a.name)++zg a.arity.toNat)++zdB a.pub) a.entry _ H4.out HAW.out.2.2.2.1 (Int.le_trans HAW.out.2.2.2.2 (by decide)) (by(try simp only [zzq1]);omega)).mono ?_;rintro e x5 ⟨rfl,h5,hb5,hs5⟩;go_wp2_with fail;go_roundw
     case rel=>exact⟨k+1,(((pp1++zJ a.name)++zg a.arity.toNat)++zdB a.pub)++zg a.entry.toNat,by omega,by go_num,zzH (by rw [HK.out,HST.out];unfold zcI;simp only [zzq4]),by simp only [zzq1];omega,zzH h5,zzH (((((HBk.out.trans (HBA.out.mono HBk.out.size)).trans HB2.out).trans HB3.out).trans HB4.out).trans hb5)⟩
     case measure=>simp [intOf];omega
    ·have HZ:Hid (W=pp1++(zg u.funs.length++(u.funs.flatMap zcB++(zg u.code.length++(u.code.flatMap zbR++ []))))):=zzH (by rw [HK.out,zzq6 (by omega)];rfl)
     have hnl:=zE u.funs.length;have hz:=HTB.out.funcs;have hzl:=HTB.out.funs;have hp2:pp1.length<=655350669860:=by omega
     have e3:=(HUX.out.below HBk.out).c4;go_wp2_with fail;refine(zbD w5.heap.size w5.heap.size pp1 (u.funs.length:Int) _ HWk.out (by omega) (by omega) (by omega)).mono ?_;rintro e wn ⟨rfl,hn,hbn,hsn⟩;rw [zzq11]at hn;have HP:Hid (W=(pp1++zg u.funs.length)++(u.funs.flatMap zcB++(zg u.code.length++(u.code.flatMap zbR++ [])))):=zzH (by rw [HZ.out];simp only [zzq4]);have hpl2:(pp1++zg u.funs.length).length<=655350700000:=by rw [zzq1];omega
     have HWp:=zzH hn;have HBp:=zzH (HBk.out.trans hbn);have e4:=(HUX.out.below HBp.out).c4;clear hn hbn hsn e3 HZ HK hpk hpl1 hp2 hnl hz hzl HWk HBk;clear HQ hlen hk hlt;generalize hpq:pp1++zg u.funs.length=p2 at *;clear hpq;have hlen:=HTB.out.funs;have HQ:Hid (W=p2++((u.funs.drop 0).flatMap zcB++(zg u.code.length++(u.code.flatMap zbR++ [])))):=zzH (by rw [HP.out,List.drop_zero]);clear HP;go_wp2_with fail;go_loopw [94] (fun iv wr=> ∃(k:Nat) (pp2:List UInt8),k<=u.funs.length/\iv= .int .i64 k/\Hid (W=pp2++((u.funs.drop k).flatMap zcB++(zg u.code.length++(u.code.flatMap zbR++ []))))/\pp2.length<=p2.length+30*k/\Hid (WrAt w5.heap.size w5.heap.size pp2 wr)/\Hid (Below w5.heap.size w5 wr)) (fun iv _=>u.funs.length-(intOf iv).toNat)
     case atStart=>exact⟨0,p2,zzZ _,rfl,HQ,by omega,HWp,HBp⟩
     case round=>
      obtain⟨k,pp2,hk,rfl,HK,hpk,HWk,HBk⟩:=hrel;rename World=>wr2
      clear HWp HBp;by_cases hlt:k<u.funs.length
      ·obtain⟨b2,off,hao,hb2,q0,q1,q2,r0,r1,r2⟩:=((HUP5.out.below HBk.out).funs).fn hlt
       subst hao;have HST:=zzH (zf0 zcB u.funs hlt);have HAW:=zzH (HTB.out.fn _ (List.getElem_mem hlt));clear r0 r1 r2;generalize u.funs[k]=a at *;have hba:=(zzR wr2.heap.size wr2).alloc (zzL _) (.cells #[.int .i64 a.arity,.int .i64 a.free,.int .i64 a.entry] 55);have hLc:=heap_alloc_new wr2 (.cells #[.int .i64 a.arity,.int .i64 a.free,.int .i64 a.entry] 55);have HBA:=zzH hba;have HL1:=zzH hLc;clear hba hLc;have H1:=zzH (HWk.out.next HBA.out);have hal1:=zE a.arity.toNat;have hal2:=zE a.free.toNat;have hal3:=zE a.entry.toNat;go_wp2_with fail;refine(zbD w5.heap.size w5.heap.size (pp2) a.arity _ H1.out HAW.out.1 (Int.le_trans HAW.out.2.1 (by decide)) (by(try simp only [zzq1]);omega)).mono ?_;rintro e x2 ⟨rfl,h2,hb2,hs2⟩;have H2:=zzH h2;have HB2:=zzH hb2;have HS2:=zzH hs2;have HL2:=zzH (hs2 _ _ _ _ HL1.out (by decide) (by decide));clear h2 hb2 hs2;have g1:x2.cell? ⟨wr2.heap.size,1,none⟩=some (.int .i64 a.free):=by rw [zzq2 _ _ _ _ _ _ HL2.out];rfl
       go_wp2_with fail;refine(zbD w5.heap.size w5.heap.size (pp2++zg a.arity.toNat) a.free _ H2.out HAW.out.2.2.1 (Int.le_trans HAW.out.2.2.2.1 (by decide)) (by(try simp only [zzq1]);omega)).mono ?_;rintro e x3 ⟨rfl,h3,hb3,hs3⟩;have H3:=zzH h3;have HB3:=zzH hb3;have HS3:=zzH hs3;have HL3:=zzH (hs3 _ _ _ _ HL2.out (by decide) (by decide));clear h3 hb3 hs3;clear g1;have g2:x3.cell? ⟨wr2.heap.size,2,none⟩=some (.int .i64 a.entry):=by rw [zzq2 _ _ _ _ _ _ HL3.out];rfl
       go_wp2_with fail;refine(zbD w5.heap.size w5.heap.size ((pp2++zg a.arity.toNat)++zg a.free.toNat) a.entry _ H3.out HAW.out.2.2.2.2.1 (Int.le_trans HAW.out.2.2.2.2.2 (by decide)) (by(try simp only [zzq1]);omega)).mono ?_;rintro e x4 ⟨rfl,h4,hb4,hs4⟩;go_wp2_with fail;go_roundw
       case rel=>exact⟨k+1,((pp2++zg a.arity.toNat)++zg a.free.toNat)++zg a.entry.toNat,by omega,by go_num,zzH (by rw [HK.out,HST.out];unfold zcB;simp only [zzq4]),by simp only [zzq1];omega,zzH h4,zzH ((((HBk.out.trans (HBA.out.mono HBk.out.size)).trans HB2.out).trans HB3.out).trans hb4)⟩
       case measure=>simp [intOf];omega
      ·have HZ:Hid (W=pp2++(zg u.code.length++(u.code.flatMap zbR++ []))):=zzH (by rw [HK.out,zzq6 (by omega)];rfl)
       have hnl:=zE u.code.length;have hz:=HTB.out.funs;have hzl:=HTB.out.code1;have hp2:pp2.length<=655350730000:=by omega
       have e3:=(HUX.out.below HBk.out).c5;go_wp2_with fail;refine(zbD w5.heap.size w5.heap.size pp2 (u.code.length:Int) _ HWk.out (by omega) (by omega) (by omega)).mono ?_;rintro e wn ⟨rfl,hn,hbn,hsn⟩;rw [zzq11]at hn;have HP:Hid (W=(pp2++zg u.code.length)++(u.code.flatMap zbR++ [])):=zzH (by rw [HZ.out];simp only [zzq4]);have hpl3:(pp2++zg u.code.length).length<=655350800000:=by rw [zzq1];omega
       have HWp:=zzH hn;have HBp:=zzH (HBk.out.trans hbn);have e4:=(HUX.out.below HBp.out).c5;clear hn hbn hsn e3 HZ HK hpk hpl2 hp2 hnl hz hzl HWk HBk;clear HQ hlen hk hlt;generalize hpq:pp2++zg u.code.length=p3 at *;clear hpq;have hlen:=HTB.out.code1;have HQ:Hid (W=p3++((u.code.drop 0).flatMap zbR++ [])):=zzH (by rw [HP.out,List.drop_zero]);clear HP;go_wp2_with fail;go_loopw [119] (fun iv wr=> ∃(k:Nat) (pp3:List UInt8),k<=u.code.length/\iv= .int .i64 k/\Hid (W=pp3++((u.code.drop k).flatMap zbR++ []))/\pp3.length<=p3.length+100000*k/\Hid (WrAt w5.heap.size w5.heap.size pp3 wr)/\Hid (Below w5.heap.size w5 wr)) (fun iv _=>u.code.length-(intOf iv).toNat)
       case atStart=>exact⟨0,p3,zzZ _,rfl,HQ,by omega,HWp,HBp⟩
       case round=>
        obtain⟨k,pp3,hk,rfl,HK,hpk,HWk,HBk⟩:=hrel;rename World=>wr3
        clear HWp HBp;by_cases hlt:k<u.code.length
        ·have d5:=(HUX.out.below HBk.out).c5
         obtain⟨bc,oc,so,co',go',sc,cc',gc',hco,hxb⟩:=ze4 HUP5.out.code hlt;subst hco;have HST:=zzH (zf0 zbR u.code hlt);have hib:=HIN.out k hlt;have HOP:Hid (1<=u.code[k].op/\u.code[k].op<=40):=zzH (by unfold zeT at hib;rw [Bool.and_eq_true]at hib;exact of_decide_eq_true hib.1);have HWI2:=zzH (znD HTB.out hib);have HXB:=zzH hxb;have hcl:=HUP5.out.codeLen;have hbl:=HXB.out.lt;clear hib hxb;have hal:=zin HWI2.out;have HRW5:=zzH (HRW.out.below HB5.out);go_wp2_with fail;refine(zmO w5 w5.heap.size pp3 bc (oc+k*10) u.code[k] so co' go' sc cc' gc' wr3 HRW5.out HWk.out HBk.out HXB.out HOP.out HWI2.out (by omega)).mono ?_;rintro e w11 ⟨rfl,h11,hb11,hs11⟩;go_wp2_with fail;go_roundw
         case rel=>exact⟨k+1,pp3++zbR u.code[k],by omega,by go_num,zzH (by rw [HK.out,HST.out];simp only [zzq4]),by rw [zzq1];unfold zbR;omega,zzH h11,zzH (HBk.out.trans hb11)⟩
         case measure=>simp [intOf];omega
        ·have HZ:Hid (W=pp3):=zzH (by rw [HK.out,zzq6 (by omega)];exact List.append_nil _)
         obtain⟨hBr,hBw,bv,hbk,hown,hne⟩:=HWk.out;have z0:wr3.cell? ⟨w5.heap.size,0,none⟩=some bv:=by rw [zzq2 _ _ _ _ _ _ hbk];rfl
         have hcv:=zq1 hown (by rw [<-HZ.out];exact HNE.out);have hrl:=zc hbk;have HF:Hid (Below B0 w wr3):=zzH (HBA.out.trans ((HB5.out.trans (HBk.out.mono HB5.out.size)).mono (by have:=HBA.out.size;have:=HBE.out;omega)));obtain⟨ao',capp3,rfl⟩:=zes hown;clear hown hbk hne;rw [<-HZ.out]at hcv z0;go_wp2_with fail;go_ret2;exact⟨rfl,by rw [HBE.out];exact HF.out⟩
def smallU:RUnit:=⟨⟨#[109]⟩,1,[],[⟨⟨#[102]⟩,1,true,0⟩],[],[⟨1,⟨1,1⟩,[⟨1,0⟩],0,0,0,⟨#[]⟩,[],[]⟩,⟨26,⟨0,0⟩,[],0,0,0,⟨#[]⟩,[],[]⟩]⟩
def zse (w:World) (e:Ending) (w':World):Prop:= ∃fo co,e= .returned (.agg #[.string smallU.mdl,.int .i64 smallU.vsn,.slice none smallU.lits.length 0,.slice fo smallU.funcs.length 1,.slice none smallU.funs.length 0,.slice co smallU.code.length 2])/\UP w' smallU none fo none co/\Below w.heap.size w w'
theorem zpW {w:World} {b1 b2 b3 c2:Nat} {t1 t2 t3:TypeId} (h1:w.heap[b1]?=some (.cells #[.string ⟨#[102]⟩,.int .i64 1,.bool true,.int .i64 0] t1 (0,0)))
  (h2:w.heap[b2]?=some (.cells #[.int .i64 1,.int .i64 0] t2 (0,0)))
  (h3:w.heap[b3]?=some (.cells #[.int .i64 1,.int .i64 1,.int .i64 1,.slice (some ⟨b2,0,none⟩) 1 c2,.int .i64 0,.int .i64 0,.int .i64 0,.string ⟨#[]⟩,.slice none 0 0,.slice none 0 0,
   .int .i64 26,.int .i64 0,.int .i64 0,.slice none 0 0,.int .i64 0,.int .i64 0,.int .i64 0,.string ⟨#[]⟩,.slice none 0 0,.slice none 0 0] t3 (0,0))):
  UP w smallU none (some ⟨b1,0,none⟩) none (some ⟨b3,0,none⟩):=by
 have i: ∀n:Int,decide (-10<=n/\n<=100)=true->I64 n:=fun n a=>by have:=of_decide_eq_true a;unfold I64;omega
 have m: ∀n:Nat,decide (n<=100)=true->n<=maxLen:=fun n a=>by have:=of_decide_eq_true a;unfold maxLen;omega
 refine⟨.inl rfl,.inr ⟨b1,0,rfl,zc h1,fun j hj=>?_⟩,.inl rfl,.inr ⟨b3,0,rfl,zc h3,fun j hj=>?_⟩,by decide,i _ rfl,by decide,by decide,by decide,by decide⟩
 ·obtain rfl:j=0:=by simp [smallU]at hj;exact hj
  refine⟨[.string ⟨#[102]⟩,.int .i64 1,.bool true,.int .i64 0],rfl,fun k hk=>?_,rfl,m _ rfl,i _ rfl,i _ rfl⟩;rw [zzq2 _ _ _ _ _ _ h1,show 0+0*4+k=k by omega];simp
 ·have hj2:j<2:=hj
  rcases(show j=0∨j=1 by omega)with rfl|rfl
  ·refine⟨[.int .i64 1,.int .i64 1,.int .i64 1,.slice (some ⟨b2,0,none⟩) 1 c2,.int .i64 0,.int .i64 0,.int .i64 0,.string ⟨#[]⟩,.slice none 0 0,.slice none 0 0],rfl,fun k hk=>?_,
    ⟨some ⟨b2,0,none⟩,c2,none,0,none,0,rfl,.inr ⟨b2,0,rfl,zc h2,fun j hj=>?_⟩,.inl rfl,.inl rfl⟩,i _ rfl,i _ rfl,i _ rfl,m _ rfl,i _ rfl,i _ rfl,i _ rfl,m _ rfl,m _ rfl,m _ rfl⟩
   ·rw [zzq2 _ _ _ _ _ _ h3,show 0+0*10+k=k by omega]
    exact zz65
   ·obtain rfl:j=0:=by simp [smallU]at hj;exact hj
    refine⟨[.int .i64 1,.int .i64 0],rfl,fun k hk=>?_,rfl,i _ rfl,i _ rfl⟩;rw [zzq2 _ _ _ _ _ _ h2,show 0+0*2+k=k by omega];simp
  ·refine⟨[.int .i64 26,.int .i64 0,.int .i64 0,.slice none 0 0,.int .i64 0,.int .i64 0,.int .i64 0,.string ⟨#[]⟩,.slice none 0 0,.slice none 0 0],rfl,fun k hk=>?_,
    ⟨none,0,none,0,none,0,rfl,.inl rfl,.inl rfl,.inl rfl⟩,i _ rfl,i _ rfl,i _ rfl,m _ rfl,i _ rfl,i _ rfl,i _ rfl,m _ rfl,m _ rfl,m _ rfl⟩
   rw [zzq2 _ _ _ _ _ _ h3];exact zz65
theorem zkX (w:World) (o0 o1 o2 o3:Obj):((((w.alloc o0).alloc o1).alloc o2).alloc o3).heap[w.heap.size]?=some o0/\((((w.alloc o0).alloc o1).alloc o2).alloc o3).heap[w.heap.size+1]?=some o1 /\
  ((((w.alloc o0).alloc o1).alloc o2).alloc o3).heap[w.heap.size+1+1]?=some o2/\((((w.alloc o0).alloc o1).alloc o2).alloc o3).heap[w.heap.size+1+1+1]?=some o3/\Below w.heap.size w ((((w.alloc o0).alloc o1).alloc o2).alloc o3):=by
 have s: ∀(x:World) (o:Obj),(x.alloc o).heap.size=x.heap.size+1:=fun x o=>by simp
 have n: ∀(x:World) (o:Obj),(x.alloc o).heap[x.heap.size]?=some o:=fun x o=>heap_alloc_new x o
 have k: ∀(x:World) (o:Obj) (j:Nat) (p:Obj),x.heap[j]?=some p->(x.alloc o).heap[j]?=some p:=fun x o j p h=>(Below.heap_alloc x o j (zc h)).trans h
 have e1:=n (w.alloc o0) o1;rw [s]at e1;have e2:=n ((w.alloc o0).alloc o1) o2;rw [s,s]at e2;have e3:=n (((w.alloc o0).alloc o1).alloc o2) o3;rw [s,s,s]at e3;exact⟨k _ _ _ _ (k _ _ _ _ (k _ _ _ _ (n w o0))),k _ _ _ _ (k _ _ _ _ e1),k _ _ _ _ e2,e3,((((zzR _ _).alloc (zzL _) _).alloc (by rw [s];omega) _).alloc (by rw [s,s];omega) _).alloc (by rw [s,s,s];omega) _⟩
theorem zow (w:World):Calls Tryz.prog 9 #[] w (zse w):=by
 go_in;go_wp2_with fail
 have h:=zkX w
  (.cells #[.string ⟨#[109]⟩,.int .i64 1,.slice none 0 0,.slice (some ⟨w.heap.size+1,0,none⟩) 1 1,.slice none 0 0,.slice (some ⟨w.heap.size+1+1+1,0,none⟩) 2 2] 28)
  (.cells #[.string ⟨#[102]⟩,.int .i64 1,.bool true,.int .i64 0] 51) (.cells #[.int .i64 1,.int .i64 0] 59)
  (.cells #[.int .i64 1,.int .i64 1,.int .i64 1,.slice (some ⟨w.heap.size+1+1,0,none⟩) 1 1,.int .i64 0,.int .i64 0,.int .i64 0,.string ⟨#[]⟩,.slice none 0 0,.slice none 0 0,
   .int .i64 26,.int .i64 0,.int .i64 0,.slice none 0 0,.int .i64 0,.int .i64 0,.int .i64 0,.string ⟨#[]⟩,.slice none 0 0,.slice none 0 0] 64)
 obtain⟨e0,e1,e2,e3,hb⟩:=h;refine bodyPost_ret (results_cell_row rfl _ _ w.heap.size _ _ _ _ rfl e0 Tryz.underlying28 rfl (by kernel_rfl)) rfl ?_;exact⟨some ⟨w.heap.size+1,0,none⟩,some ⟨w.heap.size+1+1+1,0,none⟩,rfl,zpW e1 e2 e3,hb⟩
def zqE:Tm->ByteArray:=fun _=>⟨#[]⟩
theorem zkO:zbt 1 smallU=0:=by kernel_rfl
theorem zmX:zeu zqE smallU= [1,109,1,0,1,1,102,1,1,0,0,2,1,5,1,1,26]:=by kernel_rfl
theorem ziZ (w:World) (hrows:RowsAt w) (hsp:SpaceAt w):Calls Tryz.prog 4 #[] w fun e w'=>e= .returned (.bool true)/\Below w.heap.size w w':=by
 have HR:=zzH hrows;have HS:=zzH hsp;clear hrows hsp;have HC:=zzH zmX;go_in;go_wp2_with fail;refine(zow w).mono ?_;rintro e w1 ⟨fo,co,rfl,hup,hb1⟩;have HB1:=zzH hb1
 have hput:=zrS zqE 0 smallU none fo none co 0 1 0 2 w1 (HR.out.below hb1) (HS.out.below hb1) hup (.inl rfl) (fun t ht=>by cases ht) (fun x hx=>by
  rcases List.mem_cons.1 hx with rfl|hx
  ·decide
  ·rcases List.mem_cons.1 hx with rfl|hx
   ·decide
   ·cases hx) (fun t ht=>by cases ht) zkO
 rw [HC.out]at hput;have HP:=zzH hput;clear hput hup hb1;generalize smallU=u at *;go_wp2_with fail;refine HP.out.mono ?_;rintro e w2 ⟨rfl,hb2⟩;go_wp2_with fail;go_ret;exact⟨rfl,HB1.out.trans (hb2.mono HB1.out.size)⟩
abbrev Dec (α:Type):=List UInt8->Option (α × List UInt8)
def vR:Nat->Bool->Dec Nat
 |0,_,_=>none
 |_+1,_,[]=>none
 |k+1,b,c::l=>if c.toNat<128 then(if c.toNat=0/\b=false then none else some (c.toNat,l))else(vR k false l).bind fun x=>some (c.toNat-128+128*x.1,x.2)
def vD:Dec Nat:=vR 6 true
def zbx:Dec Int:=fun l=>(vD l).bind fun x=>some ((x.1:Int),x.2)
def zcl:Dec RArg:=fun l=>(vD l).bind fun x=>some (⟨((x.1%4:Nat):Int),((x.1/4:Nat):Int)⟩,x.2)
def zdL:Dec Bool:=fun l=>(vD l).bind fun x=>if x.1<=1 then some (decide (x.1=1),x.2)else none
def zcP:Dec ByteArray:=fun l=>(vD l).bind fun x=>zci x.1 x.2
def zb3 {α:Type} (one:Dec α):Nat->Dec (List α)
 |0,l=>some ([],l)
 |n+1,l=>(one l).bind fun x=>(zb3 one n x.2).bind fun y=>some (x.1::y.1,y.2)
def zbh {α:Type} (one:Dec α):Dec (List α):=fun l=>(vD l).bind fun x=>zb3 one x.1 x.2
def zdx {α:Type} (b:Bool) (one:Dec α) (z:α):Dec α:=fun l=>if b=true then one l else some (z,l)
def zcS:Dec RCase:=fun l=>(zbx l).bind fun x=>(zbx x.2).bind fun y=>some (⟨x.1,y.1⟩,y.2)
def zdw:Dec RSeg:=fun l=>(zbx l).bind fun x=>(zcl x.2).bind fun y=>(zcl y.2).bind fun z=>(zdL z.2).bind fun q=>some (⟨x.1,y.1,z.1,q.1⟩,q.2)
def zcU:Dec RFunc:=fun l=>(zcP l).bind fun x=>(zbx x.2).bind fun y=>(zdL y.2).bind fun z=>(zbx z.2).bind fun q=>some (⟨x.1,y.1,z.1,q.1⟩,q.2)
def fnD:Dec RFun:=fun l=>(zbx l).bind fun x=>(zbx x.2).bind fun y=>(zbx y.2).bind fun z=>some (⟨x.1,y.1,z.1⟩,z.2)
def zhK (op:Int) (h:Nat):Dec RIns:=fun l=>
 (zdx (zm h 1) zcl ⟨0,0⟩ l).bind fun d=>(zdx (zm h 2) (zbh zcl) [] d.2).bind fun s=>(zdx (zm h 4) zbx 0 s.2).bind fun n=>(zdx (zm h 8) zcP ⟨#[]⟩ n.2).bind fun m=>
  (zdx (zm h 16) (zbh zcS) [] m.2).bind fun c=>(zdx (zm h 32) (zbh zdw) [] c.2).bind fun g=>(zdx (zm h 64) zbx 0 g.2).bind fun t=>(zdx (zm h 128) zbx 0 t.2).bind fun v=>
   some (⟨op,d.1,s.1,t.1,n.1,v.1,m.1,c.1,g.1⟩,v.2)
def zcJ:Dec RIns:=fun l=>(zbx l).bind fun o=>if 1<=o.1/\o.1<=40 then zhK o.1 (zw o.1).1.toNat o.2 else none
def zcd (l:List UInt8):Option (Tm × List UInt8):=(zA 2000 0 l).bind fun x=>if zD 2000 x.1.1=true then some (x.1.1,x.2)else none
def zcr:List UInt8->Option Tm
 |[]=>none
 |c::l=>if c.toNat=131 then(zcd l).bind fun x=>if x.2= []then some x.1 else none else none
def zdz:Dec Tm:=fun l=>(zcP l).bind fun x=>(zcr x.1.data.toList).bind fun t=>some (t,x.2)
def zfg:Dec RUnit:=fun l=>
 (zcP l).bind fun m=>(zbx m.2).bind fun v=>(zbh zdz v.2).bind fun a=>(zbh zcU a.2).bind fun b=>(zbh fnD b.2).bind fun c=>(zbh zcJ c.2).bind fun d=>
  some (⟨m.1,v.1,a.1,b.1,c.1,d.1⟩,d.2)
def zcX (l:List UInt8):Option RUnit:=(zfg l).bind fun x=>if x.2= []/\zbt 2000 x.1=0 then some x.1 else none
def zkn (f:Nat) (t:Tm):ByteArray:=⟨(zfN f t).toArray⟩
theorem zm3: ∀(k:Nat) (b:Bool) (l:List UInt8) (n:Nat) (l':List UInt8),vR k b l=some (n,l')-> ∀g,k<=g->l=zce g n++l'/\n<128^k/\(b=false->0<n)
 |0,b,l,n,l',h,_,_=>absurd h (by simp [vR])
 |k+1,b,[],n,l',h,_,_=>absurd h (by simp [vR])
 |k+1,b,c::l,n,l',h,g,hg=>by
  obtain⟨g,rfl⟩: ∃g',g=g'+1:=⟨g-1,by omega⟩;have hp:=Nat.pow_pos (n:=k) (show 0<128 by omega);have hc:=c.toNat_lt;rw [Nat.pow_succ];unfold vR at h;split at h
  ·next c1=>
   split at h
   ·exact zz69
   ·next c2=>
    simp only [zzX1]at h;obtain⟨rfl,rfl⟩:=h;unfold zce;rw [if_pos c1,UInt8.ofNat_toNat];refine⟨rfl,by omega,fun e=>?_⟩;have: ¬c.toNat=0:=fun e2=>c2 ⟨e2,e⟩
    omega
  ·next c1=>
   obtain⟨x,hx,h⟩:=zzO.1 h;simp only [zzX1]at h;obtain⟨rfl,rfl⟩:=h;obtain⟨h1,h2,h3⟩:=zm3 k false l x.1 x.2 hx g (by omega);have h3:=h3 rfl;unfold zce;rw [if_neg (by omega),show(c.toNat-128+128*x.1)/128=x.1 by omega,show(c.toNat-128+128*x.1)%128+128=c.toNat by omega,UInt8.ofNat_toNat];exact⟨by rw [List.cons_append,<-h1],by omega,fun _=>by omega⟩
theorem zoM: ∀(k:Nat) (b:Bool) (n:Nat) (l:List UInt8),n<128^k->(b=false->0<n)->0<k-> ∀g,k<=g->vR k b (zce g n++l)=some (n,l)
 |0,b,n,l,_,_,h,_,_=>absurd h (by omega)
 |k+1,b,n,l,hn,hb,_,g,hg=>by
  obtain⟨g,rfl⟩: ∃g',g=g'+1:=⟨g-1,by omega⟩;rw [Nat.pow_succ]at hn;unfold zce;split
  ·next c=>
   have e:(UInt8.ofNat n).toNat=n:=by rw [UInt8.toNat_ofNat'];omega
   show vR (k+1) b (UInt8.ofNat n::l)=_;unfold vR;rw [e,if_pos c,if_neg];intro hh;have:=hb hh.2;omega
  ·next c=>
   have e:(UInt8.ofNat (n%128+128)).toNat=n%128+128:=by rw [UInt8.toNat_ofNat'];omega
   show vR (k+1) b (UInt8.ofNat (n%128+128)::(zce g (n/128)++l))=_
   have hk:0<k:=by
    rcases Nat.eq_zero_or_pos k with h|h
    ·rw [h]at hn;omega
    ·exact h
   unfold vR;rw [e,if_neg (by omega),zoM k false (n/128) l (by omega) (fun _=>by omega) hk g (by omega),zzq0];simp only [Option.some.injEq,Prod.mk.injEq,and_true];omega
theorem zfJ {l l':List UInt8} {n:Nat} (h:vD l=some (n,l')):l=zg n++l'/\n<4398046511104:=by
 have:=zm3 6 true l n l' h 10 (by omega);exact⟨this.1,this.2.1⟩
theorem zsl {n:Nat} (l:List UInt8) (h:n<4398046511104):vD (zg n++l)=some (n,l):=zoM 6 true n l h (fun e=>by cases e) (by omega) 10 (by omega)
theorem zdv {l l':List UInt8} {n:Int} (h:zbx l=some (n,l')):l=zg n.toNat++l'/\0<=n/\n<4398046511104:=by
 unfold zbx at h;obtain⟨x,hx,h⟩:=zzO.1 h;simp only [zzX1]at h;obtain⟨rfl,rfl⟩:=h;have:=zfJ hx;exact⟨this.1,by omega,by omega⟩
theorem ze6 {l l':List UInt8} {a:RArg} (h:zcl l=some (a,l')):l=zb0 a++l'/\0<=a.kind/\a.kind<=3/\0<=a.n/\a.n<4398046511104:=by
 unfold zcl at h;obtain⟨x,hx,h⟩:=zzO.1 h;simp only [zzX1]at h;obtain⟨rfl,rfl⟩:=h;have:=zfJ hx;refine⟨?_,by simp only;omega,by simp only;omega,by simp only;omega,by simp only;omega⟩;unfold zb0;rw [show(4*((x.1/4:Nat):Int)+((x.1%4:Nat):Int)).toNat=x.1 by omega];exact this.1
theorem zjk {l l':List UInt8} {a:Bool} (h:zdL l=some (a,l')):l=zdB a++l':=by
 unfold zdL at h;obtain⟨x,hx,h⟩:=zzO.1 h;split at h
 ·simp only [zzX1]at h
  obtain⟨rfl,rfl⟩:=h;have:=zfJ hx;unfold zdB;by_cases c:x.1=1
  ·rw [decide_eq_true c,if_pos rfl,<-c];exact this.1
  ·rw [decide_eq_false c,if_neg (by simp),<-show x.1=0 by omega];exact this.1
 ·exact zz69
theorem zfr {l l':List UInt8} {a:ByteArray} (h:zcP l=some (a,l')):l=zJ a++l'/\a.size<4398046511104:=by
 unfold zcP at h;obtain⟨x,hx,h⟩:=zzO.1 h;have e1:=zfJ (n:=x.1) (l':=x.2) hx;have e2:=zey h;unfold zJ;rw [e2.2,zzq4,<-e2.1];exact e1
section
variable {α:Type} {one:Dec α} {E:α->List UInt8} {G:α->Prop}
theorem zjG (H: ∀l a l',one l=some (a,l')->l=E a++l'/\G a): ∀(n:Nat) (l:List UInt8) (zs:List α) (l':List UInt8),zb3 one n l=some (zs,l')->l=zs.flatMap E++l'/\zs.length=n/\ ∀a∈zs,G a
 |0,l,zs,l',h=>by
  simp only [zb3,Option.some.injEq,Prod.mk.injEq]at h;obtain⟨rfl,rfl⟩:=h;exact⟨rfl,rfl,fun a ha=>absurd ha (by simp)⟩
 |n+1,l,zs,l',h=>by
  unfold zb3 at h;obtain⟨x,hx,h⟩:=zzO.1 h;obtain⟨y,hy,h⟩:=zzO.1 h;simp only [zzX1]at h;obtain⟨rfl,rfl⟩:=h;have e1:=H l x.1 x.2 hx;have e2:=zjG H n x.2 y.1 y.2 hy;refine⟨by rw [List.flatMap_cons,zzq4,<-e2.1];exact e1.1,by rw [zzq13,e2.2.1],fun a ha=>?_⟩;rcases List.mem_cons.1 ha with rfl|ha
  ·exact e1.2
  ·exact e2.2.2 a ha
theorem zom (H: ∀l a l',one l=some (a,l')->l=E a++l'/\G a) {l:List UInt8} {zs:List α} {l':List UInt8} (h:zbh one l=some (zs,l')):l=zg zs.length++(zs.flatMap E++l')/\zs.length<4398046511104/\ ∀a∈zs,G a:=by
 unfold zbh at h;obtain⟨x,hx,h⟩:=zzO.1 h;have e1:=zfJ (n:=x.1) (l':=x.2) hx;have e2:=zjG H x.1 x.2 zs l' h;rw [e2.2.1,<-e2.1];exact⟨e1.1,e1.2,e2.2.2⟩
end
theorem zjr: ∀l a l',zcS l=some (a,l')->l=zgt a++l'/\(0<=a.lit/\a.lit<4398046511104/\0<=a.to/\a.to<4398046511104):=by
 intro l a l' h;unfold zcS at h;obtain⟨x,hx,h⟩:=zzO.1 h;obtain⟨y,hy,h⟩:=zzO.1 h;simp only [zzX1]at h;obtain⟨rfl,rfl⟩:=h;have e1:=zdv (n:=x.1) (l':=x.2) hx;have e2:=zdv (n:=y.1) (l':=y.2) hy;unfold zgt;exact⟨by rw [zzq4,<-e2.1];exact e1.1,e1.2.1,e1.2.2,e2.2.1,e2.2.2⟩
def zms (a:RSeg):Prop:=I64 a.type/\I64 a.val.kind/\I64 a.val.n/\I64 a.size.kind/\I64 a.size.n
theorem zkw: ∀l a l',zdw l=some (a,l')->l=ziC a++l'/\zms a:=by
 intro l a l' h;unfold zdw at h;obtain⟨x,hx,h⟩:=zzO.1 h;obtain⟨y,hy,h⟩:=zzO.1 h;obtain⟨z,hz,h⟩:=zzO.1 h;obtain⟨q,hq,h⟩:=zzO.1 h;simp only [zzX1]at h;obtain⟨rfl,rfl⟩:=h;have e1:=zdv (n:=x.1) (l':=x.2) hx;have e2:=ze6 (a:=y.1) (l':=y.2) hy;have e3:=ze6 (a:=z.1) (l':=z.2) hz;have e4:=zjk (a:=q.1) (l':=q.2) hq;unfold ziC zms;refine⟨by simp only [zzq4];rw [<-e4,<-e3.1,<-e2.1];exact e1.1,?_⟩;unfold I64;simp only;omega
theorem zi9: ∀l a l',zcU l=some (a,l')->l=zcI a++l'/\(a.name.size<4398046511104/\I64 a.arity/\I64 a.entry):=by
 intro l a l' h;unfold zcU at h;obtain⟨x,hx,h⟩:=zzO.1 h;obtain⟨y,hy,h⟩:=zzO.1 h;obtain⟨z,hz,h⟩:=zzO.1 h;obtain⟨q,hq,h⟩:=zzO.1 h;simp only [zzX1]at h;obtain⟨rfl,rfl⟩:=h;have e1:=zfr (a:=x.1) (l':=x.2) hx;have e2:=zdv (n:=y.1) (l':=y.2) hy;have e3:=zjk (a:=z.1) (l':=z.2) hz;have e4:=zdv (n:=q.1) (l':=q.2) hq;unfold zcI;refine⟨by simp only [zzq4];rw [<-e4.1,<-e3,<-e2.1];exact e1.1,?_⟩;unfold I64;simp only;omega
theorem zls: ∀l a l',fnD l=some (a,l')->l=zcB a++l'/\(I64 a.arity/\I64 a.free/\I64 a.entry):=by
 intro l a l' h;unfold fnD at h;obtain⟨x,hx,h⟩:=zzO.1 h;obtain⟨y,hy,h⟩:=zzO.1 h;obtain⟨z,hz,h⟩:=zzO.1 h;simp only [zzX1]at h;obtain⟨rfl,rfl⟩:=h;have e1:=zdv (n:=x.1) (l':=x.2) hx;have e2:=zdv (n:=y.1) (l':=y.2) hy;have e3:=zdv (n:=z.1) (l':=z.2) hz;unfold zcB;refine⟨by simp only [zzq4];rw [<-e3.1,<-e2.1];exact e1.1,?_⟩;unfold I64;simp only;omega
theorem zd6 {α:Type} {b:Bool} {one:Dec α} {z:α} {W:α->List UInt8} {G:α->Prop} (hz:G z) (H: ∀l a l',one l=some (a,l')->l=W a++l'/\G a) {l:List UInt8} {a:α} {l':List UInt8} (h:zdx b one z l=some (a,l')):l=opt b (W a)++l'/\G a:=by
 unfold zdx at h;unfold opt;split at h
 ·next c=>rw [if_pos c];exact H l a l' h
 ·next c=>
  simp only [zzX1]at h;obtain⟨rfl,rfl⟩:=h;rw [if_neg c];exact⟨rfl,hz⟩
def zit (a:RArg):Prop:=I64 a.kind/\I64 a.n
def zjx (a:RCase):Prop:=I64 a.lit/\I64 a.to
structure InsOk (x:RIns):Prop where
 op:I64 x.op
 dst:zit x.dst
 src: ∀a∈x.src,zit a
 srcL:x.src.length<=4398046511104
 tgt:I64 x.to
 n:I64 x.n
 live:I64 x.live
 name:x.name.size<=4398046511104
 cases: ∀a∈x.cases,zjx a
 casesL:x.cases.length<=4398046511104
 segs: ∀a∈x.segs,zms a
 segsL:x.segs.length<=4398046511104
theorem znL: ∀l a l',zcl l=some (a,l')->l=zb0 a++l'/\zit a:=fun l a l' h=>by
 have:=ze6 h;exact⟨this.1,by unfold zit I64;omega⟩
theorem zrG: ∀l a l',zcS l=some (a,l')->l=zgt a++l'/\zjx a:=fun l a l' h=>by
 have:=zjr l a l' h;exact⟨this.1,by unfold zjx I64;omega⟩
theorem zid: ∀l (a:Int) l',zbx l=some (a,l')->l=zg a.toNat++l'/\I64 a:=fun l a l' h=>by
 have:=zdv h;exact⟨this.1,by unfold I64;omega⟩
theorem zlD: ∀l (a:ByteArray) l',zcP l=some (a,l')->l=zJ a++l'/\a.size<=4398046511104:=fun l a l' h=>by
 have:=zfr h;exact⟨this.1,by omega⟩
theorem zeY {α:Type} {one:Dec α} {E:α->List UInt8} {G:α->Prop} (H: ∀l a l',one l=some (a,l')->l=E a++l'/\G a): ∀l (zs:List α) l',zbh one l=some (zs,l')->l=(zg zs.length++zs.flatMap E)++l'/\((∀a∈zs,G a)/\zs.length<=4398046511104):=fun l zs l' h=>by
 have:=zom H h;exact⟨by rw [zzq4];exact this.1,this.2.2,by omega⟩
theorem zet:I64 0:=by unfold I64;omega
theorem zqr {op:Int} {h:Nat} (ho:I64 op) {l:List UInt8} {x:RIns} {l':List UInt8} (hx:zhK op h l=some (x,l')):zg op.toNat++l=zeo h x++l'/\x.op=op/\InsOk x:=by
 unfold zhK at hx;obtain⟨d,hd,hx⟩:=zzO.1 hx;obtain⟨s,hs,hx⟩:=zzO.1 hx;obtain⟨n,hn,hx⟩:=zzO.1 hx;obtain⟨m,hm,hx⟩:=zzO.1 hx;obtain⟨c,hc,hx⟩:=zzO.1 hx;obtain⟨g,hg,hx⟩:=zzO.1 hx;obtain⟨t,ht,hx⟩:=zzO.1 hx;obtain⟨v,hv,hx⟩:=zzO.1 hx;simp only [zzX1]at hx;obtain⟨rfl,rfl⟩:=hx;have e1:=zd6 (a:=d.1) (l':=d.2) (show zit ⟨0,0⟩from⟨zet,zet⟩) znL hd;have e2:=zd6 (a:=s.1) (l':=s.2) (G:=fun zs=>(∀a∈zs,zit a)/\zs.length<=4398046511104) ⟨fun a ha=>absurd ha (by simp),zzZ _⟩ (zeY znL) hs;have e3:=zd6 (a:=n.1) (l':=n.2) (G:=I64) zet zid hn;have e4:=zd6 (a:=m.1) (l':=m.2) (G:=fun a=>a.size<=4398046511104) (by show(0:Nat)<=_;omega) zlD hm;have e5:=zd6 (a:=c.1) (l':=c.2) (G:=fun zs=>(∀a∈zs,zjx a)/\zs.length<=4398046511104) ⟨fun a ha=>absurd ha (by simp),zzZ _⟩ (zeY zrG) hc;have e6:=zd6 (a:=g.1) (l':=g.2) (G:=fun zs=>(∀a∈zs,zms a)/\zs.length<=4398046511104) ⟨fun a ha=>absurd ha (by simp),zzZ _⟩ (zeY zkw) hg;have e7:=zd6 (a:=t.1) (l':=t.2) (G:=I64) zet zid ht;have e8:=zd6 (a:=v.1) (l':=v.2) (G:=I64) zet zid hv;refine⟨?_,rfl,⟨ho,e1.2,e2.2.1,e2.2.2,e7.2,e3.2,e8.2,e4.2,e5.2.1,e5.2.2,e6.2.1,e6.2.2⟩⟩;unfold zeo zda zbm zbj;simp only [zzq4];rw [<-e8.1,<-e7.1,<-e6.1,<-e5.1,<-e4.1,<-e3.1,<-e2.1,<-e1.1]
theorem zkv: ∀l x l',zcJ l=some (x,l')->l=zbR x++l'/\InsOk x:=by
 intro l x l' h;unfold zcJ at h;obtain⟨o,ho,h⟩:=zzO.1 h;split at h
 ·next c=>
  have e1:=zdv (n:=o.1) (l':=o.2) ho;have e2:=zqr (by unfold I64;omega) h;unfold zbR;rw [e2.2.1,<-e2.1];exact⟨e1.1,e2.2.2⟩
 ·exact zz69
theorem zhY {l:List UInt8} {t:Tm} {l':List UInt8} (h:zcd l=some (t,l')) (hl:l.length<=maxLen):l=zV 2000 t++l'/\zD 2000 t=true/\OkF 2000 t:=by
 unfold zcd at h;obtain⟨x,hx,h⟩:=zzO.1 h;split at h
 ·next c=>
  simp only [zzX1]at h;obtain⟨rfl,rfl⟩:=h;exact⟨zjc 2000 0 l x.1.1 x.1.2 x.2 hx,c,(zfY 2000 0 l x.1.1 x.1.2 x.2 hx (by omega) hl).1⟩
 ·exact zz69
theorem zjl {l:List UInt8} {t:Tm} (h:zcr l=some t) (hl:l.length<=maxLen):l=zfN 2000 t/\zD 2000 t=true/\OkF 2000 t:=by
 cases l with
 |nil=>exact absurd h (by simp [zcr])
 |cons c l=>
  change (if c.toNat=131 then(zcd l).bind fun x=>if x.2= []then some x.1 else none else none)=some t at h;by_cases hc:c.toNat=131
  ·rw [if_pos hc]at h
   obtain⟨x,hx,h⟩:=zzO.1 h;split at h
   ·next h0=>
    simp only [Option.some.injEq]at h;subst h;rw [zzq13]at hl;have e:=zhY (t:=x.1) (l':=x.2) hx (by omega);rw [h0,List.append_nil]at e;unfold zfN;rw [<-e.1,show c=131 from UInt8.toNat_inj.1 hc];exact⟨rfl,e.2⟩
   ·exact zz69
  ·rw [if_neg hc]at h;exact absurd h (by simp)
theorem zjP: ∀l t l',zdz l=some (t,l')->l=zJ (zkn 2000 t)++l'/\(zD 2000 t=true/\OkF 2000 t):=by
 intro l t l' h;unfold zdz at h;obtain⟨x,hx,h⟩:=zzO.1 h;obtain⟨y,hy,h⟩:=zzO.1 h;simp only [zzX1]at h;obtain⟨rfl,rfl⟩:=h;have e1:=zfr (a:=x.1) (l':=x.2) hx;have hz:x.1.data.toList.length=x.1.size:=rfl;have e2:=zjl hy (by unfold maxLen;omega)
 have e3:zkn 2000 y=x.1:=by
  unfold zkn;rw [<-e2.1]
 rw [e3];exact⟨e1.1,e2.2⟩
structure UnitOk (u:RUnit):Prop where
 mdl:u.mdl.size<=4398046511104
 vsn:I64 u.vsn
 lits: ∀t∈u.lits,zD 2000 t=true/\OkF 2000 t
 litsL:u.lits.length<=4398046511104
 funcs: ∀a∈u.funcs,a.name.size<4398046511104/\I64 a.arity/\I64 a.entry
 funcsL:u.funcs.length<=4398046511104
 funs: ∀a∈u.funs,I64 a.arity/\I64 a.free/\I64 a.entry
 funsL:u.funs.length<=4398046511104
 code: ∀x∈u.code,InsOk x
 codeL:u.code.length<=4398046511104
theorem zjb {l:List UInt8} {u:RUnit} {l':List UInt8} (h:zfg l=some (u,l')):l=zeu (zkn 2000) u++l'/\UnitOk u:=by
 unfold zfg at h;obtain⟨m,hm,h⟩:=zzO.1 h;obtain⟨v,hv,h⟩:=zzO.1 h;obtain⟨a,ha,h⟩:=zzO.1 h;obtain⟨b,hb,h⟩:=zzO.1 h;obtain⟨c,hc,h⟩:=zzO.1 h;obtain⟨d,hd,h⟩:=zzO.1 h;simp only [zzX1]at h;obtain⟨rfl,rfl⟩:=h;have e1:=zlD l m.1 m.2 hm;have e2:=zid m.2 v.1 v.2 hv;have e3:=zeY zjP v.2 a.1 a.2 ha;have e4:=zeY zi9 a.2 b.1 b.2 hb;have e5:=zeY zls b.2 c.1 c.2 hc;have e6:=zeY zkv c.2 d.1 d.2 hd;refine⟨?_,⟨e1.2,e2.2,e3.2.1,e3.2.2,e4.2.1,e4.2.2,e5.2.1,e5.2.2,e6.2.1,e6.2.2⟩⟩;unfold zeu;simp only [List.append_nil,zzq4]at e3 e4 e5 e6 ⊢;rw [<-e6.1,<-e5.1,<-e4.1,<-e3.1,<-e2.1,<-e1.1]
structure QS where
 l:List UInt8
 bad:Bool
abbrev Rdr (α:Type):=QS->α × QS
def zv:Rdr Nat:=fun σ=>if σ.bad=true then(0,σ)else(vD σ.l).elim (0,⟨σ.l,true⟩) fun x=>(x.1,⟨x.2,false⟩)
def zge (n:Nat):Rdr ByteArray:=fun σ=>if σ.bad=true∨σ.l.length<n then(⟨#[]⟩,⟨σ.l,true⟩)else(⟨(σ.l.take n).toArray⟩,⟨σ.l.drop n,false⟩)
def zZ {α β:Type} (q:Rdr α) (k:α->Rdr β):Rdr β:=fun σ=>k (q σ).1 (q σ).2
def zfu {α:Type} (a:α):Rdr α:=fun σ=>(a,σ)
def zdC {α:Type} (ok:Bool) (a:α):Rdr α:=fun σ=>(a,⟨σ.l,σ.bad|| !ok⟩)
def zbK:Rdr ByteArray:=zZ zv zge
def zc2:Rdr Int:=zZ zv fun n=>zfu (n:Int)
def zcu:Rdr RArg:=zZ zv fun n=>zfu ⟨((n%4:Nat):Int),((n/4:Nat):Int)⟩
def zed {α:Type} (one:Rdr α):Nat->Rdr (List α)
 |0,σ=>([],σ)
 |n+1,σ=>if σ.bad=true then([],σ)else((one σ).1::(zed one n (one σ).2).1,(zed one n (one σ).2).2)
def zdA {α:Type} (one:Rdr α):Rdr (List α):=zZ zv (zed one)
def zdG {α:Type} (b:Bool) (one:Rdr α) (z:α):Rdr α:=if b=true then one else zfu z
def zgB:Rdr RCase:=zZ zc2 fun x=>zZ zc2 fun y=>zfu ⟨x,y⟩
def ziy:Rdr RSeg:=zZ zc2 fun x=>zZ zcu fun y=>zZ zcu fun z=>zZ zv fun q=>zdC (decide (q<=1)) ⟨x,y,z,decide (q=1)⟩
def zgs:Rdr RFunc:=zZ zbK fun x=>zZ zc2 fun y=>zZ zv fun z=>zZ zc2 fun q=>zdC (decide (z<=1)) ⟨x,y,decide (z=1),q⟩
def fnQ:Rdr RFun:=zZ zc2 fun x=>zZ zc2 fun y=>zZ zc2 fun z=>zfu ⟨x,y,z⟩
def zhc (op:Int) (h:Nat):Rdr RIns:=
 zZ (zdG (zm h 1) zcu ⟨0,0⟩) fun d=>zZ (zdG (zm h 2) (zdA zcu) []) fun s=>zZ (zdG (zm h 4) zc2 0) fun n=>zZ (zdG (zm h 8) zbK ⟨#[]⟩) fun m=>
  zZ (zdG (zm h 16) (zdA zgB) []) fun c=>zZ (zdG (zm h 32) (zdA ziy) []) fun g=>zZ (zdG (zm h 64) zc2 0) fun t=>zZ (zdG (zm h 128) zc2 0) fun v=>
   zfu ⟨op,d,s,t,n,v,m,c,g⟩
def zc9:Rdr RIns:=zZ zc2 fun o=>zZ (zdC (decide (1<=o/\o<=40)) ()) fun _=>zhc o (if 1<=o/\o<=40 then(zw o).1.toNat else 0)
def zg7:Rdr Tm:=zZ zbK fun b=>zdC (zcr b.data.toList).isSome ((zcr b.data.toList).getD (tmK 0))
def zcn:Rdr RUnit:=zZ zbK fun m=>zZ zc2 fun v=>zZ (zdA zg7) fun a=>zZ (zdA zgs) fun b=>zZ (zdA fnQ) fun c=>zZ (zdA zc9) fun d=>zfu ⟨m,v,a,b,c,d⟩
structure Sim {α:Type} (q:Rdr α) (d:Dec α):Prop where
 yes: ∀l x,d l=some x->q ⟨l,false⟩=(x.1,⟨x.2,false⟩)
 no: ∀l,d l=none->(q ⟨l,false⟩).2.bad=true
 bad: ∀σ,σ.bad=true->(q σ).2.bad=true
theorem zbe {α β:Type} {q:Rdr α} {d:Dec α} {k:α->Rdr β} {e:α->Dec β} (h:Sim q d) (hk: ∀a,Sim (k a) (e a)):Sim (zZ q k) (fun l=>(d l).bind fun x=>e x.1 x.2) where
 yes l x hx:=by
  obtain⟨y,hy,hx⟩:=zzO.1 hx;unfold zZ;rw [h.yes l y hy];exact(hk y.1).yes y.2 x hx
 no l hx:=by
  unfold zZ
  cases hy:d l with
  |none=>exact(hk _).bad _ (h.no l hy)
  |some y=>
   rw [hy,zzq0]at hx;rw [h.yes l y hy];exact(hk y.1).no y.2 hx
 bad σ hb:=(hk _).bad _ (h.bad σ hb)
theorem zeH {α:Type} (a:α):Sim (zfu a) (fun l=>some (a,l)) where
 yes l x h:=by simp only [Option.some.injEq]at h;subst h;rfl
 no l h:=absurd h (by simp)
 bad σ h:=h
theorem zhN {α:Type} {p:Prop} [Decidable p] (a:α):Sim (zdC (decide p) a) (fun l=>if p then some (a,l)else none) where
 yes l x h:=by
  split at h
  ·next c=>simp only [Option.some.injEq]at h;subst h;unfold zdC;rw [decide_eq_true c];rfl
  ·exact zz69
 no l h:=by
  split at h
  ·exact zz69
  ·next c=>unfold zdC;rw [decide_eq_false c];rfl
 bad σ h:=by unfold zdC;show(σ.bad||_)=true;rw [h];rfl
theorem zfG:Sim zv vD where
 yes l x h:=by unfold zv;rw [if_neg (by simp)];show(vD l).elim _ _=_;rw [h];rfl
 no l h:=by unfold zv;rw [if_neg (by simp)];show((vD l).elim (0,(⟨l,true⟩:QS)) fun x=>(x.1,⟨x.2,false⟩)).2.bad=true;rw [h];rfl
 bad σ h:=by unfold zv;rw [if_pos h];exact h
theorem zrq (n:Nat):Sim (zge n) (zci n) where
 yes l x h:=by
  unfold zci at h;split at h
  ·next c=>simp only [Option.some.injEq]at h;subst h;unfold zge;rw [if_neg (by simp;omega)]
  ·exact zz69
 no l h:=by
  unfold zci at h;split at h
  ·exact zz69
  ·next c=>unfold zge;rw [if_pos (.inr (by show l.length<n;omega))]
 bad σ h:=by unfold zge;rw [if_pos (.inl h)]
theorem zgm:Sim zbK zcP:=zbe zfG zrq
theorem zdg:Sim zc2 zbx:=zbe zfG fun n=>zeH (n:Int)
theorem zgl:Sim zcu zcl:=zbe zfG fun n=>zeH _
theorem zlA {α:Type} {q:Rdr α} {d:Dec α} (h:Sim q d): ∀n,Sim (zed q n) (zb3 d n)
 |0=>zeH []
 |n+1=>by
  have ih:=zlA h n;refine⟨fun l x hx=>?_,fun l hx=>?_,fun σ hb=>?_⟩
  ·unfold zb3 at hx
   obtain⟨y,hy,hx⟩:=zzO.1 hx;obtain⟨z,hz,hx⟩:=zzO.1 hx;simp only [Option.some.injEq]at hx;subst hx;unfold zed;rw [if_neg (by simp),h.yes l y hy,ih.yes y.2 z hz]
  ·unfold zb3 at hx
   unfold zed;rw [if_neg (by simp)];show(zed q n (q ⟨l,false⟩).2).2.bad=true
   cases hy:d l with
   |none=>exact ih.bad _ (h.no l hy)
   |some y=>
    rw [h.yes l y hy];rw [hy,zzq0]at hx
    cases hz:zb3 d n y.2 with
    |none=>exact ih.no _ hz
    |some z=>rw [hz,zzq0]at hx;exact absurd hx (by simp)
  ·unfold zed;rw [if_pos hb];exact hb
theorem zex {α:Type} {q:Rdr α} {d:Dec α} (h:Sim q d):Sim (zdA q) (zbh d):=zbe zfG (zlA h)
theorem zeG {α:Type} {q:Rdr α} {d:Dec α} (b:Bool) (z:α) (h:Sim q d):Sim (zdG b q z) (zdx b d z):=by
 cases b with
 |true=>exact h
 |false=>exact zeH z
theorem zjZ:Sim zgB zcS:=zbe zdg fun _=>zbe zdg fun _=>zeH _
theorem zkA {α:Type} {q:Rdr α} {d e:Dec α} (h:Sim q d) (he: ∀l,d l=e l):Sim q e:=by rw [<-funext he];exact h
theorem zla:Sim ziy zdw:=by
 have h: ∀(x:Int) (y z:RArg),Sim (zZ zv fun q=>zdC (decide (q<=1)) (⟨x,y,z,decide (q=1)⟩:RSeg)) (fun l=>(zdL l).bind fun q=>some (⟨x,y,z,q.1⟩,q.2)):=fun x y z=>by
  refine zkA (zbe zfG fun q=>zhN (p:=q<=1) (⟨x,y,z,decide (q=1)⟩:RSeg)) fun l=>?_
  unfold zdL
  cases vD l with
  |none=>rfl
  |some q=>
   simp only [zzq0];split<;>rfl
 exact zbe zdg fun x=>zbe zgl fun y=>zbe zgl fun z=>h x y z
theorem zkb:Sim zgs zcU:=by
 have hs: ∀(x:ByteArray) (y:Int) (z:Nat),Sim (zZ zc2 fun q=>zdC (decide (z<=1)) (⟨x,y,decide (z=1),q⟩:RFunc)) (fun l=>(zbx l).bind fun q=>if z<=1 then some (⟨x,y,decide (z=1),q.1⟩,q.2)else none):=
  fun x y z=>zbe zdg fun q=>zhN (p:=z<=1) _
 have h: ∀(x:ByteArray) (y:Int),Sim (zZ zv fun z=>zZ zc2 fun q=>zdC (decide (z<=1)) (⟨x,y,decide (z=1),q⟩:RFunc)) (fun l=>(zdL l).bind fun z=>(zbx z.2).bind fun q=>some (⟨x,y,z.1,q.1⟩,q.2)):=fun x y=>by
  refine zkA (zbe zfG (hs x y)) fun l=>?_
  unfold zdL
  cases vD l with
  |none=>rfl
  |some z=>
   simp only [zzq0];by_cases c:z.1<=1
   ·simp only [if_pos c,zzq0]
   ·simp only [if_neg c,Option.bind_none]
    cases zbx z.2<;>rfl
 exact zbe zgm fun x=>zbe zdg fun y=>h x y
theorem zoT:Sim fnQ fnD:=zbe zdg fun _=>zbe zdg fun _=>zbe zdg fun _=>zeH _
theorem zpY (op:Int) (h:Nat):Sim (zhc op h) (zhK op h):=
 zbe (zeG _ _ zgl) fun _=>zbe (zeG _ _ (zex zgl)) fun _=>zbe (zeG _ _ zdg) fun _=>zbe (zeG _ _ zgm) fun _=>
  zbe (zeG _ _ (zex zjZ)) fun _=>zbe (zeG _ _ (zex zla)) fun _=>zbe (zeG _ _ zdg) fun _=>zbe (zeG _ _ zdg) fun _=>zeH _
theorem zlx:Sim zc9 zcJ:=by
 have h: ∀o:Int,Sim (zZ (zdC (decide (1<=o/\o<=40)) ()) fun _=>zhc o (if 1<=o/\o<=40 then(zw o).1.toNat else 0)) (fun l=>if 1<=o/\o<=40 then zhK o (zw o).1.toNat l else none):=fun o=>by
  refine zkA (zbe (zhN (p:=1<=o/\o<=40) ()) fun _=>zpY o _) fun l=>?_
  by_cases c:1<=o/\o<=40
  ·simp only [if_pos c,zzq0]
  ·simp only [if_neg c,Option.bind_none]
 exact zbe zdg h
theorem zlc:Sim zg7 zdz:=by
 have h: ∀b:ByteArray,Sim (zdC (zcr b.data.toList).isSome ((zcr b.data.toList).getD (tmK 0))) (fun l=>(zcr b.data.toList).bind fun t=>some (t,l)):=fun b=>by
  cases h:zcr b.data.toList with
  |none=>
   refine⟨fun l x hx=>absurd hx (by simp),fun l _=>rfl,fun σ hb=>?_⟩;show(σ.bad||_)=true;rw [hb];rfl
  |some t=>
   refine⟨fun l x hx=>?_,fun l hx=>absurd hx (by simp),fun σ hb=>?_⟩
   ·simp only [zzq0,Option.some.injEq]at hx;subst hx;rfl
   ·show(σ.bad||_)=true;rw [hb];rfl
 exact zbe zgm fun b=>h b
theorem sim_unit:Sim zcn zfg:=
 zbe zgm fun _=>zbe zdg fun _=>zbe (zex zlc) fun _=>zbe (zex zkb) fun _=>zbe (zex zoT) fun _=>zbe (zex zlx) fun _=>zeH _
theorem zps (b:List UInt8):zfg b=if(zcn ⟨b,false⟩).2.bad=true then none else some ((zcn ⟨b,false⟩).1,(zcn ⟨b,false⟩).2.l):=by
 cases h:zfg b with
 |none=>rw [if_pos (sim_unit.no b h)]
 |some x=>rw [sim_unit.yes b x h];rfl
def zcx:Nat->List UInt8->Option (Nat × Nat)
 |0,_=>none
 |_+1,[]=>none
 |k+1,c::l=>if c.toNat<128 then some (c.toNat,1)else(zcx k l).map fun x=>(c.toNat-128+128*x.1,x.2+1)
theorem ziI: ∀(k:Nat) (l:List UInt8) (v n:Nat),zcx k l=some (v,n)->v<128^k/\n<=l.length
 |0,_,_,_,h=>absurd h (by simp [zcx])
 |_+1,[],_,_,h=>absurd h (by simp [zcx])
 |k+1,c::l,v,n,h=>by
  have hc:=c.toNat_lt;have hp:=Nat.pow_pos (n:=k) (show 0<128 by omega);unfold zcx at h;rw [Nat.pow_succ];split at h
  ·simp only [zzX1]at h
   obtain⟨rfl,rfl⟩:=h;exact⟨by omega,by simp⟩
  ·obtain⟨x,hx,h⟩:=Option.map_eq_some_iff.1 h
   simp only [Prod.mk.injEq]at h;obtain⟨rfl,rfl⟩:=h;have ih:=ziI k l x.1 x.2 hx;exact⟨by omega,by simp;exact ih.2⟩
theorem zlm: ∀(k:Nat) (b:Bool) (l:List UInt8) (n:Nat) (l':List UInt8),vR k b l=some (n,l')-> ∃m,zcx k l=some (n,m)/\l'=l.drop m
 |0,_,_,_,_,h=>absurd h (by simp [vR])
 |_+1,_,[],_,_,h=>absurd h (by simp [vR])
 |k+1,b,c::l,n,l',h=>by
  unfold vR at h;unfold zcx;split at h
  ·next c1=>
   split at h
   ·exact zz69
   ·simp only [zzX1]at h
    obtain⟨rfl,rfl⟩:=h;exact⟨1,if_pos c1,rfl⟩
  ·next c1=>
   obtain⟨x,hx,h⟩:=zzO.1 h;simp only [zzX1]at h;obtain⟨rfl,rfl⟩:=h;obtain⟨m,h1,h2⟩:=zlm k false l x.1 x.2 hx;refine⟨m+1,?_,h2⟩;rw [if_neg c1,h1];rfl
theorem zhl (l:List UInt8):vD l=(zcx 6 l).bind fun x=>if zg x.1=l.take x.2 then some (x.1,l.drop x.2)else none:=by
 cases h:vD l with
 |some y=>
  obtain⟨n,l'⟩:=y;obtain⟨m,h1,h2⟩:=zlm 6 true l n l' h;have h3:=(zfJ h).1;have h4:=(ziI 6 l n m h1).2;rw [h1,zzq0,if_pos,h2];have h5:zg n++l.drop m=l.take m++l.drop m:=by rw [List.take_append_drop,<-h2];exact h3.symm
  exact List.append_cancel_right h5
 |none=>
  cases h1:zcx 6 l with
  |none=>rfl
  |some x=>
   obtain⟨v,m⟩:=x;rw [zzq0,if_neg];intro h2;have h3:=zsl (n:=v) (l.drop m) (by have:=(ziI 6 l v m h1).1;exact zzW this (by decide));rw [h2,List.take_append_drop,h]at h3;exact absurd h3 (by simp)
theorem zh1 (k:Nat) (c:UInt8) (l:List UInt8):zcx (k+1) (c::l)=if c.toNat<128 then some (c.toNat,1)else(zcx k l).map fun x=>(c.toNat-128+128*x.1,x.2+1):=rfl
theorem znH {l:List UInt8} {j nv:Nat} (hj:j<l.length) (h6:j<6) (h:zcx 6 l=(zcx (6-j) (l.drop j)).map fun x=>(nv+128^j*x.1,x.2+j)) (hc:128<=(l[j]'hj).toNat):
  zcx 6 l=(zcx (6-(j+1)) (l.drop (j+1))).map fun x=>(nv+128^j*((l[j]'hj).toNat-128)+128^(j+1)*x.1,x.2+(j+1)):=by
 obtain⟨q,h1,h2⟩: ∃q,6-j=q+1/\6-(j+1)=q:=⟨6-(j+1),by omega,rfl⟩;rw [h1,List.drop_eq_getElem_cons hj,zh1,if_neg (by omega)]at h;rw [h,h2]
 cases zcx q (l.drop (j+1))with
 |none=>simp only [Option.map_none]
 |some x=>
  simp only [Option.map_some];refine congrArg some (Prod.ext ?_ ?_)
  ·show nv+128^j*((l[j]'hj).toNat-128+128*x.1)=nv+128^j*((l[j]'hj).toNat-128)+128^(j+1)*x.1
   rw [Nat.mul_add,Nat.pow_succ,Nat.mul_assoc,Nat.add_assoc]
  ·show x.2+1+j=x.2+(j+1);omega
theorem znk {l:List UInt8} {j nv:Nat} (hj:j<l.length) (h6:j<6) (h:zcx 6 l=(zcx (6-j) (l.drop j)).map fun x=>(nv+128^j*x.1,x.2+j)) (hc:(l[j]'hj).toNat<128):
  zcx 6 l=some (nv+128^j*(l[j]'hj).toNat,j+1):=by
 obtain⟨q,h1,h2⟩: ∃q,6-j=q+1/\6-(j+1)=q:=⟨6-(j+1),by omega,rfl⟩;rw [h1,List.drop_eq_getElem_cons hj,zh1,if_pos hc]at h;rw [h];show some (_,1+j)=_;rw [Nat.add_comm 1 j]
theorem zke {l:List UInt8} {j nv:Nat} (hj:l.length<=j∨6<=j) (h:zcx 6 l=(zcx (6-j) (l.drop j)).map fun x=>(nv+128^j*x.1,x.2+j)):zcx 6 l=none:=by
 rw [h];rcases hj with h1|h1
 ·rw [zzq6 h1];cases 6-j<;>rfl
 ·rw [show 6-j=0 by omega];rfl
def rrT:List (List UInt8 × Int × Int):=[([],0,0),([100,115],1,1),([100,115,108],0,255),([100,115,108],2,2),([100,115,110,108],0,200),([100,115,110],1,1),([100,115],1,1),([100,115],1,1),([116],0,0),([115,110,116],1,1),([115,116],1,1),([115,116],2,2),([115,99,116],1,1),([100,115,119,116,108],0,255),([100,115,119,108],0,3),([110,119],0,0),([110],0,0),([110],0,0),([115,110],2,2),([115,110],2,2),([115,110],1,1),([115,110],1,1),([115],2,3),([115],2,3),([110],0,0),([],0,0),([],0,0),([115],2,2),([116],0,0),([],0,0),([115,116],1,1),([100,115,110,116,108],1,1),([100,115,110,116,108],1,1),([100,110,116,108],0,0),([116],0,0),([100,103,108],0,0),([115],0,1),([116],0,0),([],0,0),([116],0,0),([116],0,0)]
def zRow:RRow:=⟨false,false,false,false,false,false,false,false,0,0⟩
def zd3 (op:Int):RRow:=if zc5 op=true then(match rrT[op.toNat]? with|some (l,lo,hi)=>zbp l lo hi|none=>zRow)else zRow
theorem zlq (k:Nat) (h1:1<=k) (h2:k<41):zd3 (k:Int)=zbp (rrT[k]'h2).1 (rrT[k]'h2).2.1 (rrT[k]'h2).2.2:=by
 unfold zd3 zc5;rw [if_pos (decide_eq_true (by omega)),zzq11,zzq8 (by exact h2)]
theorem zlr {op:Int} (h: ¬(1<=op/\op<=40)):zd3 op=zRow:=by
 unfold zd3 zc5;rw [if_neg (by rw [decide_eq_true_eq];exact h)]
theorem zn4: ∀k:Nat,(h:k<41)->1<=k->(zbp (rrT[k]'h).1 (rrT[k]'h).2.1 (rrT[k]'h).2.2).a=zm (rowT[k]'h).1.toNat 1/\(zbp (rrT[k]'h).1 (rrT[k]'h).2.1 (rrT[k]'h).2.2).b=zm (rowT[k]'h).1.toNat 2/\(zbp (rrT[k]'h).1 (rrT[k]'h).2.1 (rrT[k]'h).2.2).c=zm (rowT[k]'h).1.toNat 4 /\
  (zbp (rrT[k]'h).1 (rrT[k]'h).2.1 (rrT[k]'h).2.2).d=zm (rowT[k]'h).1.toNat 8/\(zbp (rrT[k]'h).1 (rrT[k]'h).2.1 (rrT[k]'h).2.2).e=zm (rowT[k]'h).1.toNat 16/\(zbp (rrT[k]'h).1 (rrT[k]'h).2.1 (rrT[k]'h).2.2).f=zm (rowT[k]'h).1.toNat 32 /\
  (zbp (rrT[k]'h).1 (rrT[k]'h).2.1 (rrT[k]'h).2.2).g=zm (rowT[k]'h).1.toNat 64/\(zbp (rrT[k]'h).1 (rrT[k]'h).2.1 (rrT[k]'h).2.2).h=zm (rowT[k]'h).1.toNat 128/\(rrT[k]'h).2.1=(rowT[k]'h).2.1/\(rrT[k]'h).2.2=(rowT[k]'h).2.2:=by decide +kernel
theorem zhn {op:Int} (h:1<=op/\op<=40):zd3 op=⟨zm (zw op).1.toNat 1,zm (zw op).1.toNat 2,zm (zw op).1.toNat 4,zm (zw op).1.toNat 8,zm (zw op).1.toNat 16,zm (zw op).1.toNat 32,zm (zw op).1.toNat 64,zm (zw op).1.toNat 128,(zw op).2.1,(zw op).2.2⟩:=by
 obtain⟨k,rfl⟩: ∃k:Nat,op=(k:Int):=⟨op.toNat,by omega⟩;have hk:k<41:=by omega
 have hra:zw (k:Int)=rowT[k]'hk:=by unfold zw;rw [zzq11,zzq8 (by exact hk)];rfl
 rw [zlq k (by omega) hk,hra];obtain⟨e1,e2,e3,e4,e5,e6,e7,e8,e9,e10⟩:=zn4 k hk (by omega);rw [<-e1,<-e2,<-e3,<-e4,<-e5,<-e6,<-e7,<-e8,<-e9,<-e10]
 rfl
theorem zkd {w w1:World} {cs:Array Value} (hb:Below (w.alloc (.cells cs 133)).heap.size (w.alloc (.cells cs 133)) w1):w1.heap[w.heap.size]?=some (.cells cs 133 (0,0)):=
 (hb.block _ (by simp)).trans (heap_alloc_new _ _)
theorem zqM (w:World):Calls Tryz.prog 97 #[.int .i64 16] w fun e w'=>e= .returned (.tuple #[.agg (zbp [110] 0 0).val,.bool true])/\Below w.heap.size w w':=by
 exact zz131
theorem zrJ (w:World):Calls Tryz.prog 97 #[.int .i64 17] w fun e w'=>e= .returned (.tuple #[.agg (zbp [110] 0 0).val,.bool true])/\Below w.heap.size w w':=by
 exact zz131
theorem zrv (w:World):Calls Tryz.prog 97 #[.int .i64 18] w fun e w'=>e= .returned (.tuple #[.agg (zbp [115,110] 2 2).val,.bool true])/\Below w.heap.size w w':=by
 exact zz131
theorem zqV (w:World):Calls Tryz.prog 97 #[.int .i64 19] w fun e w'=>e= .returned (.tuple #[.agg (zbp [115,110] 2 2).val,.bool true])/\Below w.heap.size w w':=by
 exact zz131
theorem zqY (w:World):Calls Tryz.prog 97 #[.int .i64 20] w fun e w'=>e= .returned (.tuple #[.agg (zbp [115,110] 1 1).val,.bool true])/\Below w.heap.size w w':=by
 exact zz131
theorem zra (w:World):Calls Tryz.prog 97 #[.int .i64 21] w fun e w'=>e= .returned (.tuple #[.agg (zbp [115,110] 1 1).val,.bool true])/\Below w.heap.size w w':=by
 exact zz131
theorem zq2 (w:World):Calls Tryz.prog 97 #[.int .i64 22] w fun e w'=>e= .returned (.tuple #[.agg (zbp [115] 2 3).val,.bool true])/\Below w.heap.size w w':=by
 exact zz131
theorem zrw (w:World):Calls Tryz.prog 97 #[.int .i64 23] w fun e w'=>e= .returned (.tuple #[.agg (zbp [115] 2 3).val,.bool true])/\Below w.heap.size w w':=by
 exact zz131
theorem zqK (w:World):Calls Tryz.prog 97 #[.int .i64 24] w fun e w'=>e= .returned (.tuple #[.agg (zbp [110] 0 0).val,.bool true])/\Below w.heap.size w w':=by
 exact zz131
theorem zrN (w:World):Calls Tryz.prog 97 #[.int .i64 25] w fun e w'=>e= .returned (.tuple #[.agg (zbp [] 0 0).val,.bool true])/\Below w.heap.size w w':=by
 exact zz132
theorem zr3 (w:World):Calls Tryz.prog 97 #[.int .i64 26] w fun e w'=>e= .returned (.tuple #[.agg (zbp [] 0 0).val,.bool true])/\Below w.heap.size w w':=by
 exact zz132
theorem zrO (w:World):Calls Tryz.prog 97 #[.int .i64 27] w fun e w'=>e= .returned (.tuple #[.agg (zbp [115] 2 2).val,.bool true])/\Below w.heap.size w w':=by
 exact zz131
theorem zrL (w:World):Calls Tryz.prog 97 #[.int .i64 29] w fun e w'=>e= .returned (.tuple #[.agg (zbp [] 0 0).val,.bool true])/\Below w.heap.size w w':=by
 exact zz132
theorem zqI (w:World):Calls Tryz.prog 97 #[.int .i64 31] w fun e w'=>e= .returned (.tuple #[.agg (zbp [100,115,110,116,108] 1 1).val,.bool true])/\Below w.heap.size w w':=by
 exact zz131
theorem zre (w:World):Calls Tryz.prog 97 #[.int .i64 32] w fun e w'=>e= .returned (.tuple #[.agg (zbp [100,115,110,116,108] 1 1).val,.bool true])/\Below w.heap.size w w':=by
 exact zz131
theorem zr2 (w:World):Calls Tryz.prog 97 #[.int .i64 33] w fun e w'=>e= .returned (.tuple #[.agg (zbp [100,110,116,108] 0 0).val,.bool true])/\Below w.heap.size w w':=by
 exact zz131
theorem zqW (w:World):Calls Tryz.prog 97 #[.int .i64 35] w fun e w'=>e= .returned (.tuple #[.agg (zbp [100,103,108] 0 0).val,.bool true])/\Below w.heap.size w w':=by
 exact zz131
theorem zrk (w:World):Calls Tryz.prog 97 #[.int .i64 36] w fun e w'=>e= .returned (.tuple #[.agg (zbp [115] 0 1).val,.bool true])/\Below w.heap.size w w':=by
 exact zz131
theorem zrK (w:World):Calls Tryz.prog 97 #[.int .i64 38] w fun e w'=>e= .returned (.tuple #[.agg (zbp [] 0 0).val,.bool true])/\Below w.heap.size w w':=by
 exact zz132
theorem zrx (op:Int) (w:World) (h: ¬(1<=op/\op<=40)):Calls Tryz.prog 97 #[.int .i64 op] w fun e w'=>e= .returned (.tuple #[.agg zRow.val,.bool false])/\Below w.heap.size w w':=by
 have b16:(op==16)=false:=zzB.2 (by omega);have b17:(op==17)=false:=zzB.2 (by omega);have b18:(op==18)=false:=zzB.2 (by omega);have b19:(op==19)=false:=zzB.2 (by omega);have b20:(op==20)=false:=zzB.2 (by omega);have b21:(op==21)=false:=zzB.2 (by omega);have b22:(op==22)=false:=zzB.2 (by omega);have b23:(op==23)=false:=zzB.2 (by omega);have b24:(op==24)=false:=zzB.2 (by omega);have b25:(op==25)=false:=zzB.2 (by omega);have b26:(op==26)=false:=zzB.2 (by omega);have b27:(op==27)=false:=zzB.2 (by omega);have b29:(op==29)=false:=zzB.2 (by omega);have b31:(op==31)=false:=zzB.2 (by omega);have b32:(op==32)=false:=zzB.2 (by omega);have b33:(op==33)=false:=zzB.2 (by omega);have b35:(op==35)=false:=zzB.2 (by omega);have b36:(op==36)=false:=zzB.2 (by omega);have b38:(op==38)=false:=zzB.2 (by omega);clear h;exact zz132
theorem zrP (w:World):Calls Tryz.prog 71 #[.int .i64 1] w fun e w'=>e= .returned (.tuple #[.agg (zbp [100,115] 1 1).val,.bool true])/\Below w.heap.size w w':=by
 exact zz131
theorem zqZ (w:World):Calls Tryz.prog 71 #[.int .i64 6] w fun e w'=>e= .returned (.tuple #[.agg (zbp [100,115] 1 1).val,.bool true])/\Below w.heap.size w w':=by
 exact zz131
theorem zqN (w:World):Calls Tryz.prog 71 #[.int .i64 7] w fun e w'=>e= .returned (.tuple #[.agg (zbp [100,115] 1 1).val,.bool true])/\Below w.heap.size w w':=by
 exact zz131
theorem zq3 (w:World):Calls Tryz.prog 71 #[.int .i64 2] w fun e w'=>e= .returned (.tuple #[.agg (zbp [100,115,108] 0 255).val,.bool true])/\Below w.heap.size w w':=by
 exact zz131
theorem zq5 (w:World):Calls Tryz.prog 71 #[.int .i64 3] w fun e w'=>e= .returned (.tuple #[.agg (zbp [100,115,108] 2 2).val,.bool true])/\Below w.heap.size w w':=by
 exact zz131
theorem zqU (w:World):Calls Tryz.prog 71 #[.int .i64 4] w fun e w'=>e= .returned (.tuple #[.agg (zbp [100,115,110,108] 0 200).val,.bool true])/\Below w.heap.size w w':=by
 exact zz131
theorem zqO (w:World):Calls Tryz.prog 71 #[.int .i64 5] w fun e w'=>e= .returned (.tuple #[.agg (zbp [100,115,110] 1 1).val,.bool true])/\Below w.heap.size w w':=by
 exact zz131
theorem zrd (w:World):Calls Tryz.prog 71 #[.int .i64 8] w fun e w'=>e= .returned (.tuple #[.agg (zbp [116] 0 0).val,.bool true])/\Below w.heap.size w w':=by
 exact zz131
theorem zpn (w:World):Calls Tryz.prog 71 #[.int .i64 28] w fun e w'=>e= .returned (.tuple #[.agg (zbp [116] 0 0).val,.bool true])/\Below w.heap.size w w':=by
 exact zz131
theorem zqx (w:World):Calls Tryz.prog 71 #[.int .i64 34] w fun e w'=>e= .returned (.tuple #[.agg (zbp [116] 0 0).val,.bool true])/\Below w.heap.size w w':=by
 exact zz131
theorem zqk (w:World):Calls Tryz.prog 71 #[.int .i64 37] w fun e w'=>e= .returned (.tuple #[.agg (zbp [116] 0 0).val,.bool true])/\Below w.heap.size w w':=by
 exact zz131
theorem zpl (w:World):Calls Tryz.prog 71 #[.int .i64 39] w fun e w'=>e= .returned (.tuple #[.agg (zbp [116] 0 0).val,.bool true])/\Below w.heap.size w w':=by
 exact zz131
theorem zpp (w:World):Calls Tryz.prog 71 #[.int .i64 40] w fun e w'=>e= .returned (.tuple #[.agg (zbp [116] 0 0).val,.bool true])/\Below w.heap.size w w':=by
 exact zz131
theorem zrE (w:World):Calls Tryz.prog 71 #[.int .i64 9] w fun e w'=>e= .returned (.tuple #[.agg (zbp [115,110,116] 1 1).val,.bool true])/\Below w.heap.size w w':=by
 exact zz131
theorem zpM (w:World):Calls Tryz.prog 71 #[.int .i64 10] w fun e w'=>e= .returned (.tuple #[.agg (zbp [115,116] 1 1).val,.bool true])/\Below w.heap.size w w':=by
 exact zz131
theorem zqB (w:World):Calls Tryz.prog 71 #[.int .i64 30] w fun e w'=>e= .returned (.tuple #[.agg (zbp [115,116] 1 1).val,.bool true])/\Below w.heap.size w w':=by
 exact zz131
theorem zo4 (w:World):Calls Tryz.prog 71 #[.int .i64 11] w fun e w'=>e= .returned (.tuple #[.agg (zbp [115,116] 2 2).val,.bool true])/\Below w.heap.size w w':=by
 exact zz131
theorem zpa (w:World):Calls Tryz.prog 71 #[.int .i64 12] w fun e w'=>e= .returned (.tuple #[.agg (zbp [115,99,116] 1 1).val,.bool true])/\Below w.heap.size w w':=by
 exact zz131
theorem zpA (w:World):Calls Tryz.prog 71 #[.int .i64 13] w fun e w'=>e= .returned (.tuple #[.agg (zbp [100,115,119,116,108] 0 255).val,.bool true])/\Below w.heap.size w w':=by
 exact zz131
theorem zo8 (w:World):Calls Tryz.prog 71 #[.int .i64 14] w fun e w'=>e= .returned (.tuple #[.agg (zbp [100,115,119,108] 0 3).val,.bool true])/\Below w.heap.size w w':=by
 exact zz131
theorem zpX (w:World):Calls Tryz.prog 71 #[.int .i64 15] w fun e w'=>e= .returned (.tuple #[.agg (zbp [110,119] 0 0).val,.bool true])/\Below w.heap.size w w':=by
 exact zz131
theorem zbA (op:Int) (r:RRow) (q:Bool) (w:World) (hm: ∀wx,Calls Tryz.prog 97 #[.int .i64 op] wx fun e w'=>e= .returned (.tuple #[.agg r.val,.bool q])/\Below wx.heap.size wx w')
  (h:op≠1/\op≠6/\op≠7/\op≠2/\op≠3/\op≠4/\op≠5/\op≠8/\op≠28/\op≠34/\op≠37/\op≠39/\op≠40/\op≠9/\op≠10/\op≠30/\op≠11/\op≠12/\op≠13/\op≠14/\op≠15):Calls Tryz.prog 71 #[.int .i64 op] w fun e w'=>e= .returned (.tuple #[.agg r.val,.bool q])/\Below w.heap.size w w':=by
 have HM:=zzH hm;clear hm;obtain⟨n1,n6,n7,n2,n3,n4,n5,n8,n28,n34,n37,n39,n40,n9,n10,n30,n11,n12,n13,n14,n15⟩:=h;have b1:(op==1)=false:=zzB.2 n1;have b6:(op==6)=false:=zzB.2 n6;have b7:(op==7)=false:=zzB.2 n7;have b2:(op==2)=false:=zzB.2 n2;have b3:(op==3)=false:=zzB.2 n3;have b4:(op==4)=false:=zzB.2 n4;have b5:(op==5)=false:=zzB.2 n5;have b8:(op==8)=false:=zzB.2 n8;have b28:(op==28)=false:=zzB.2 n28;have b34:(op==34)=false:=zzB.2 n34;have b37:(op==37)=false:=zzB.2 n37;have b39:(op==39)=false:=zzB.2 n39;have b40:(op==40)=false:=zzB.2 n40;have b9:(op==9)=false:=zzB.2 n9;have b10:(op==10)=false:=zzB.2 n10;have b30:(op==30)=false:=zzB.2 n30;have b11:(op==11)=false:=zzB.2 n11;have b12:(op==12)=false:=zzB.2 n12;have b13:(op==13)=false:=zzB.2 n13;have b14:(op==14)=false:=zzB.2 n14;have b15:(op==15)=false:=zzB.2 n15;clear n1 n6 n7 n2 n3 n4 n5 n8 n28 n34 n37 n39 n40 n9 n10 n30 n11 n12 n13 n14 n15;go_in;go_wp2_with (first|(go_at_call 97;refine(HM.out _).mono ?_;rintro e w1 ⟨rfl,hb1⟩;have hk:=zkd hb1)|(refine wpList_store_row rfl 133 _ _ rfl _ _ rfl rfl 133 _ hk (by kernel_rfl) rfl (RRow.one _) ?_));go_wp2_with fail;refine bodyPost_ret (zbb rfl _ _ _ w.heap.size _ _ _ _ rfl (setRow_heap _ _ _ _ _ _ hk) Tryz.underlying133 (by kernel_rfl)) rfl ?_;exact⟨rfl,below_setRow (((zzR _ _).alloc (zzL _) _).trans (hb1.mono (by simp))) (zzL _) _⟩
theorem zgH (op:Int) (w:World):Calls Tryz.prog 71 #[.int .i64 op] w fun e w'=>e= .returned (.tuple #[.agg (zd3 op).val,.bool (zc5 op)])/\Below w.heap.size w w':=by
 by_cases h:1<=op/\op<=40
 ·have hok:zc5 op=true:=by unfold zc5;exact zzT h
  rw [hok];obtain⟨k,rfl⟩: ∃k:Nat,op=(k:Int):=⟨op.toNat,by omega⟩;have hk:k<41:=by omega
  have hk1:1<=k:=by omega
  rw [zlq k hk1 hk];clear h hok
  match k,hk,hk1 with
  |0,_,h0=>exact absurd h0 (by decide)
  |1,_,_=>exact zrP w
  |2,_,_=>exact zq3 w
  |3,_,_=>exact zq5 w
  |4,_,_=>exact zqU w
  |5,_,_=>exact zqO w
  |6,_,_=>exact zqZ w
  |7,_,_=>exact zqN w
  |8,_,_=>exact zrd w
  |9,_,_=>exact zrE w
  |10,_,_=>exact zpM w
  |11,_,_=>exact zo4 w
  |12,_,_=>exact zpa w
  |13,_,_=>exact zpA w
  |14,_,_=>exact zo8 w
  |15,_,_=>exact zpX w
  |16,_,_=>exact zbA 16 _ true w (fun wx=>zqM wx) (by decide)
  |17,_,_=>exact zbA 17 _ true w (fun wx=>zrJ wx) (by decide)
  |18,_,_=>exact zbA 18 _ true w (fun wx=>zrv wx) (by decide)
  |19,_,_=>exact zbA 19 _ true w (fun wx=>zqV wx) (by decide)
  |20,_,_=>exact zbA 20 _ true w (fun wx=>zqY wx) (by decide)
  |21,_,_=>exact zbA 21 _ true w (fun wx=>zra wx) (by decide)
  |22,_,_=>exact zbA 22 _ true w (fun wx=>zq2 wx) (by decide)
  |23,_,_=>exact zbA 23 _ true w (fun wx=>zrw wx) (by decide)
  |24,_,_=>exact zbA 24 _ true w (fun wx=>zqK wx) (by decide)
  |25,_,_=>exact zbA 25 _ true w (fun wx=>zrN wx) (by decide)
  |26,_,_=>exact zbA 26 _ true w (fun wx=>zr3 wx) (by decide)
  |27,_,_=>exact zbA 27 _ true w (fun wx=>zrO wx) (by decide)
  |28,_,_=>exact zpn w
  |29,_,_=>exact zbA 29 _ true w (fun wx=>zrL wx) (by decide)
  |30,_,_=>exact zqB w
  |31,_,_=>exact zbA 31 _ true w (fun wx=>zqI wx) (by decide)
  |32,_,_=>exact zbA 32 _ true w (fun wx=>zre wx) (by decide)
  |33,_,_=>exact zbA 33 _ true w (fun wx=>zr2 wx) (by decide)
  |34,_,_=>exact zqx w
  |35,_,_=>exact zbA 35 _ true w (fun wx=>zqW wx) (by decide)
  |36,_,_=>exact zbA 36 _ true w (fun wx=>zrk wx) (by decide)
  |37,_,_=>exact zqk w
  |38,_,_=>exact zbA 38 _ true w (fun wx=>zrK wx) (by decide)
  |39,_,_=>exact zpl w
  |40,_,_=>exact zpp w
  |k+41,hk,_=>exact absurd hk (by omega)
 ·have hok:zc5 op=false:=by unfold zc5;exact zzD h
  rw [hok,zlr h];exact zbA op zRow false w (fun wx=>zrx op wx h) (by omega)
theorem zjI {f g:Nat} (H: ∀(t:Tm),zj f t=true->zW f t<=g->zj g t=true/\zW g t=zW f t/\zx g t=zx f t/\zV g t=zV f t/\(OkF f t->OkF g t)):
  ∀(ts:List Tm),(∀x∈ts,zj f x=true)->(ts.map (zW f)).sum<=g->(∀x∈ts,zj g x=true)/\ts.map (zW g)=ts.map (zW f)/\ts.map (zx g)=ts.map (zx f)/\ts.flatMap (zV g)=ts.flatMap (zV f)/\((∀x∈ts,OkF f x)-> ∀x∈ts,OkF g x)
 |[],_,_=>⟨fun x hx=>absurd hx (by simp),rfl,rfl,rfl,fun _ x hx=>absurd hx (by simp)⟩
 |t::ts,hf,hn=>by
  rw [List.map_cons,List.sum_cons]at hn;obtain⟨a1,a2,a3,a4,a5⟩:=H t (hf t (List.mem_cons_self ..)) (by omega);obtain⟨b1,b2,b3,b4,b5⟩:=zjI H ts (fun x hx=>hf x (List.mem_cons_of_mem _ hx)) (by omega);refine⟨fun x hx=>?_,by simp only [List.map_cons,a2,b2],by simp only [List.map_cons,a3,b3],by simp only [List.flatMap_cons,a4,b4],fun ho x hx=>?_⟩
  ·rcases List.mem_cons.1 hx with rfl|hx
   ·exact a1
   ·exact b1 x hx
  ·rcases List.mem_cons.1 hx with rfl|hx
   ·exact a5 (ho _ (List.mem_cons_self ..))
   ·exact b5 (fun y hy=>ho y (List.mem_cons_of_mem _ hy)) x hx
theorem zix: ∀(f g:Nat) (t:Tm),zj f t=true->zW f t<=g->zj g t=true/\zW g t=zW f t/\zx g t=zx f t/\zV g t=zV f t/\(OkF f t->OkF g t)
 |0,g,t,h,_=>absurd h (by simp [zj])
 |f+1,g,t,h,hn=>by
  have h':=h;unfold zj at h';rw [Bool.and_eq_true,List.all_eq_true]at h';unfold zW at hn;obtain⟨g,rfl⟩: ∃g',g=g'+1:=⟨g-1,by omega⟩;obtain⟨b1,b2,b3,b4,b5⟩:=zjI (f:=f) (g:=g) (fun t=>zix f g t) t.items h'.2 (by omega);refine⟨?_,?_,?_,?_,fun ho=>⟨ho.1,b5 ho.2⟩⟩
  ·unfold zj;rw [Bool.and_eq_true,List.all_eq_true];exact⟨h'.1,b1⟩
  ·unfold zW;rw [b2]
  ·unfold zx;rw [b3]
  ·unfold zV;rw [b4]
theorem zlT {f:Nat} {t:Tm} (h:zD f t=true):zD 2000 t=true/\zV 2000 t=zV f t/\(OkF f t->OkF 2000 t):=by
 unfold zD at h ⊢;rw [Bool.and_eq_true,decide_eq_true_eq]at h;have:=zep f t h.1;obtain⟨a1,a2,a3,a4,a5⟩:=zix f 2000 t h.1 (by omega);exact⟨by rw [Bool.and_eq_true,decide_eq_true_eq,a3];exact⟨a1,h.2⟩,a4,a5⟩
theorem zlO {t:Tm} (hv:zD 2000 t=true) (ho:OkF 2000 t) (l:List UInt8):zcd (zV 2000 t++l)=some (t,l):=by
 unfold zcd;rw [zoa hv ho,zzq0];exact if_pos hv
structure Wst (B b X:Nat) (t:Tm) (so:Option Addr) (c:Nat) (w:World) (l:List UInt8) (wx:World):Prop where
 at':WtAt B b l wx
 box:wx.heap[X]?=some (.cells #[.int .i64 t.kind,.int .i64 t.int,.int .i64 t.gen,.string t.name,.string t.func,.int .i64 t.arity,.slice so t.items.length c,.string t.bytes,.int .i64 t.bits] 47 (0,0))
 bel:Below B w wx
 st:StaysE w wx
theorem Wst.next {B b X:Nat} {t:Tm} {so:Option Addr} {c:Nat} {w:World} {l l':List UInt8} {wx wy:World} (h:Wst B b X t so c w l wx) (h1:WtAt B b l' wy) (h2:Below B wx wy) (h3:StaysE wx wy):Wst B b X t so c w l' wy:=
 ⟨h1,h3 X _ _ _ h.box (by decide) (by decide),h.bel.trans h2,h.st.trans h3⟩
theorem Wst.below {B b X:Nat} {t:Tm} {so:Option Addr} {c:Nat} {w:World} {l:List UInt8} {wx wy:World} (h:Wst B b X t so c w l wx) (hb:Below wx.heap.size wx wy):Wst B b X t so c w l wy:=
 h.next (h.at'.below hb) (hb.mono h.at'.2.1) ((StaysE.refl _).below hb)
theorem zgD (w:World) (x:RIns) (so co' go':Option Addr) (sc cc' gc':Nat):XBox (w.alloc (.cells #[.int .i64 x.op,.int .i64 x.dst.kind,.int .i64 x.dst.n,.slice so x.src.length sc,.int .i64 x.to,.int .i64 x.n,.int .i64 x.live,.string x.name,.slice co' x.cases.length cc',.slice go' x.segs.length gc'] 64)) w.heap.size x so co' go' sc cc' gc':=heap_alloc_new _ _
theorem zlG {l k : List UInt8} {b : Bool} (h : (l == k) = b) : (l != k) = !b := by rw [<- h]; rfl
theorem zn7 (x:RIns) (so co' go':Option Addr) (sc cc' gc':Nat) (w:World) (hs:x.name.size<=maxLen) (r2:x.src.length<=9223372036854775807) (r1:I64 x.n) (hop:x.op=13):
  Calls Tryz.prog 76 #[.agg (zzi x so sc co' cc' go' gc')] w fun e w'=>e= .returned (.bool (zbu x))/\Below w.heap.size w w':=by
 unfold zzi;have E0:Hid (zbu x=(((x.name.toList== [123,125])||((x.name.toList== [124])&&((x.src.length:Int)==2)))||((!(x.name.toList== [43,43])&&zT x.name x.src.length)||(zbJ x.name x.src.length==1)))):=zzH (by unfold zbu;rw [if_pos hop]);have HOP:=zzH hop;clear hop;go_in;go_upto_region 1 with fail;have hX:=zgD w x so co' go' sc cc' gc';have hBX:Below w.heap.size w (w.alloc (.cells (zzi x so sc co' cc' go' gc') 64)):=(zzR _ _).alloc (zzL _) _;generalize w.alloc (.cells (zzi x so sc co' cc' go' gc') 64)=W at *;have hcl:=zeR x.name x.src.length W hs;rw [<-zdT]at hcl;have HX:=zzH hX;have HB:=zzH hBX;have c0:=hX.c0;have c3:=hX.c3;have c5:=hX.c5;have c7:=hX.c7;have hlx:=hX.lt;clear hX hBX;rw [HOP.out]at c0;generalize hBz:w.heap.size=B at *;have HBZ:=zzH hBz;clear hBz;go_wp2_with fail;refine hcl.mono ?_;rintro e w1 ⟨rfl,hb1⟩;have hX1:=HX.out.below hb1;have HB1:Hid (Below B w w1):=zzH (HB.out.trans (hb1.mono (by have:=HB.out.size;have:=HBZ.out;omega)));have hbb:=hb1.size;clear hb1 c0 c3 c5 c7 hcl;have c0:=hX1.c0;have c3:=hX1.c3;have c5:=hX1.c5;have c7:=hX1.c7;have hlx1:=hX1.lt;have HX1:=zzH hX1;clear hX1;rw [HOP.out]at c0;have hop2:=zf4 x.name x.src.length w1
 cases q1:(zbJ x.name x.src.length==1)with
 |true=>
  exact zz196
 |false=>
  simp only [q1]at E0
  cases ob:zT x.name x.src.length with
  |true=>
   simp only [ob]at E0
   cases t0:(x.name.toList== [43,43])with
   |true=>
    exact zz195
   |false=>
    simp only [t0]at E0;have t0':=zlG t0
    try simp only [zzX4]at E0
    go_wp2_with fail;refine hop2.mono ?_;rintro e w2 ⟨rfl,rfl⟩;go_wp2_with fail;go_ret;exact⟨zr E0.out.symm,by rw [HBZ.out];exact HB1.out⟩
  |false=>
   simp only [ob]at E0
   cases t0:(x.name.toList== [43,43])with
   |true=>
    exact zz195
   |false=>
    exact zz195
theorem znw (x:RIns) (so co' go':Option Addr) (sc cc' gc':Nat) (w:World) (hs:x.name.size<=maxLen) (r2:x.src.length<=9223372036854775807) (r1:I64 x.n) (hop:x.op=14):
  Calls Tryz.prog 76 #[.agg (zzi x so sc co' cc' go' gc')] w fun e w'=>e= .returned (.bool (zbu x))/\Below w.heap.size w w':=by
 unfold zzi;have E0:Hid (zbu x=((zT x.name x.src.length||(zbJ x.name x.src.length==1))||(zbJ x.name x.src.length==2))):=zzH (by unfold zbu;rw [if_neg (by omega),if_pos hop]);have HOP:=zzH hop;clear hop;go_in;go_upto_region 1 with fail;have hX:=zgD w x so co' go' sc cc' gc';have hBX:Below w.heap.size w (w.alloc (.cells (zzi x so sc co' cc' go' gc') 64)):=(zzR _ _).alloc (zzL _) _;generalize w.alloc (.cells (zzi x so sc co' cc' go' gc') 64)=W at *;have hcl:=zeR x.name x.src.length W hs;rw [<-zdT]at hcl;have HX:=zzH hX;have HB:=zzH hBX;have c0:=hX.c0;have c3:=hX.c3;have c5:=hX.c5;have c7:=hX.c7;have hlx:=hX.lt;clear hX hBX;rw [HOP.out]at c0;generalize hBz:w.heap.size=B at *;have HBZ:=zzH hBz;clear hBz;go_wp2_with fail;refine hcl.mono ?_;rintro e w1 ⟨rfl,hb1⟩;have hX1:=HX.out.below hb1;have HB1:Hid (Below B w w1):=zzH (HB.out.trans (hb1.mono (by have:=HB.out.size;have:=HBZ.out;omega)));have hbb:=hb1.size;clear hb1 c0 c3 c5 c7 hcl;have c0:=hX1.c0;have c3:=hX1.c3;have c5:=hX1.c5;have c7:=hX1.c7;have hlx1:=hX1.lt;have HX1:=zzH hX1;clear hX1;rw [HOP.out]at c0;have hop2:=zf4 x.name x.src.length w1
 cases q1:(zbJ x.name x.src.length==1)with
 |true=>
  exact zz196
 |false=>
  simp only [q1]at E0
  cases q2:(zbJ x.name x.src.length==2)with
  |true=>
   exact zz197
  |false=>
   exact zz197
theorem znJ (x:RIns) (so co' go':Option Addr) (sc cc' gc':Nat) (w:World) (hs:x.name.size<=maxLen) (r2:x.src.length<=9223372036854775807) (r1:I64 x.n) (hop:x.op=15):
  Calls Tryz.prog 76 #[.agg (zzi x so sc co' cc' go' gc')] w fun e w'=>e= .returned (.bool (zbu x))/\Below w.heap.size w w':=by
 unfold zzi;have E0:Hid (zbu x=(((x.name.toList== [33])&&(x.n==2))||(zbJ x.name x.n==3))):=zzH (by unfold zbu;rw [if_neg (by omega),if_neg (by omega),if_pos hop]);have HOP:=zzH hop;clear hop;go_in;go_upto_region 1 with fail;have hX:=zgD w x so co' go' sc cc' gc';have hBX:Below w.heap.size w (w.alloc (.cells (zzi x so sc co' cc' go' gc') 64)):=(zzR _ _).alloc (zzL _) _;generalize w.alloc (.cells (zzi x so sc co' cc' go' gc') 64)=W at *;have hcl:=zeR x.name x.src.length W hs;rw [<-zdT]at hcl;have HX:=zzH hX;have HB:=zzH hBX;have c0:=hX.c0;have c3:=hX.c3;have c5:=hX.c5;have c7:=hX.c7;have hlx:=hX.lt;clear hX hBX;rw [HOP.out]at c0;generalize hBz:w.heap.size=B at *;have HBZ:=zzH hBz;clear hBz;go_wp2_with fail;refine hcl.mono ?_;rintro e w1 ⟨rfl,hb1⟩;have hX1:=HX.out.below hb1;have HB1:Hid (Below B w w1):=zzH (HB.out.trans (hb1.mono (by have:=HB.out.size;have:=HBZ.out;omega)));have hbb:=hb1.size;clear hb1 c0 c3 c5 c7 hcl;have c0:=hX1.c0;have c3:=hX1.c3;have c5:=hX1.c5;have c7:=hX1.c7;have hlx1:=hX1.lt;have HX1:=zzH hX1;clear hX1;rw [HOP.out]at c0;have hop2:=zf4 x.name x.src.length w1;have hc2:=zeR x.name x.n w1 hs;rw [<-zdT]at hc2
 cases q3:(zbJ x.name x.n==3)with
 |true=>
  simp only [q3]at E0;exact zz199
 |false=>
  simp only [q3]at E0
  cases t1:(x.name.toList== [33])with
  |true=>
   simp only [t1]at E0
   cases q2:(x.n==2)with
   |true=>
    exact zz198
   |false=>
    exact zz198
  |false=>
   simp only [t1]at E0;exact zz199
theorem zk2 (x:RIns) (so co' go':Option Addr) (sc cc' gc':Nat) (w:World) (hs:x.name.size<=maxLen) (r2:x.src.length<=9223372036854775807) (r1:I64 x.n) (h13: ¬x.op=13) (h14: ¬x.op=14) (h15: ¬x.op=15):
  Calls Tryz.prog 76 #[.agg (zzi x so sc co' cc' go' gc')] w fun e w'=>e= .returned (.bool (zbu x))/\Below w.heap.size w w':=by
 unfold zzi;have E0:Hid (zbu x=true):=zzH (by unfold zbu;rw [if_neg h13,if_neg h14,if_neg h15]);have t13:(x.op==13)=false:=zzB.2 h13;have t14:(x.op==14)=false:=zzB.2 h14;have t15:(x.op==15)=false:=zzB.2 h15;clear h13 h14 h15;go_in;go_upto_region 1 with fail;have hX:=zgD w x so co' go' sc cc' gc';have hBX:Below w.heap.size w (w.alloc (.cells (zzi x so sc co' cc' go' gc') 64)):=(zzR _ _).alloc (zzL _) _;generalize w.alloc (.cells (zzi x so sc co' cc' go' gc') 64)=W at *;have hcl:=zeR x.name x.src.length W hs;rw [<-zdT]at hcl;have HX:=zzH hX;have HB:=zzH hBX;have c0:=hX.c0;have c3:=hX.c3;have c5:=hX.c5;have c7:=hX.c7;have hlx:=hX.lt;clear hX hBX;generalize hBz:w.heap.size=B at *;have HBZ:=zzH hBz;clear hBz;go_wp2_with fail;refine hcl.mono ?_;rintro e w1 ⟨rfl,hb1⟩;have hX1:=HX.out.below hb1;have HB1:Hid (Below B w w1):=zzH (HB.out.trans (hb1.mono (by have:=HB.out.size;have:=HBZ.out;omega)));have hbb:=hb1.size;clear hb1 c0 c3 c5 c7 hcl;have c0:=hX1.c0;have c3:=hX1.c3;have c5:=hX1.c5;have c7:=hX1.c7;have hlx1:=hX1.lt;have HX1:=zzH hX1;clear hX1;have hop2:=zf4 x.name x.src.length w1;go_wp2_with fail;refine hop2.mono ?_;rintro e w2 ⟨rfl,rfl⟩;go_wp2_with fail;go_ret;exact⟨zr E0.out.symm,by rw [HBZ.out];exact HB1.out⟩
theorem zmV (x:RIns) (so co' go':Option Addr) (sc cc' gc':Nat) (w:World) (hs:x.name.size<=maxLen) (r2:x.src.length<=9223372036854775807) (r1:I64 x.n):
  Calls Tryz.prog 76 #[.agg (zzi x so sc co' cc' go' gc')] w fun e w'=>e= .returned (.bool (zbu x))/\Below w.heap.size w w':=by
 unfold zzi;by_cases h13:x.op=13
 ·exact zn7 x so co' go' sc cc' gc' w hs r2 r1 h13
 by_cases h14:x.op=14
 ·exact znw x so co' go' sc cc' gc' w hs r2 r1 h14
 by_cases h15:x.op=15
 ·exact znJ x so co' go' sc cc' gc' w hs r2 r1 h15
 exact zk2 x so co' go' sc cc' gc' w hs r2 r1 h13 h14 h15
open Go.RowKit Go.Shelf
end Go.Proofs.YtlaabicdhkebbaaGreatDoor
