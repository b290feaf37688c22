/- part 3 -/
import Derived.Test.YtlaabicdhkebbaaGreatDoorRows
import Derived.Test.YtlaabicdhkebbaaGreatDoorGetsAll01
namespace Go.Proofs.YtlaabicdhkebbaaGreatDoor
open Go.RowKit
set_option linter.unusedVariables false
set_option linter.unusedSimpArgs false
set_option maxRecDepth 100000
set_option maxHeartbeats 80000000
theorem zpj (a:Int) (w:World) (ha:I64 a):
  Calls Tryz.prog 124 #[.int .i64 a] w fun e w'=>e= .returned (.int .u64 a.natAbs)/\w=w':=by
 obtain⟨a1,a2⟩:=ha;go_in;go_wp2
 ·go_ret
  exact⟨zdl (by
    have:a<0:=by assumption
    rw [IntKind.wrap_u64,IntKind.wrap_u64];omega),rfl⟩
 ·go_ret
  exact⟨zdl (by
    have:0<=a:=by assumption
    omega),rfl⟩
theorem zln (B:Nat) (l:Int) (k:Nat) (hl:l=k) (hk:k<20) (w:World):
  (Instr.sliceAt 184 (.pointer (some ⟨B,0,none⟩)) (some (.int .i64 l)) none none).run Tryz.prog w= .ok (.slice (some ⟨B,k,none⟩) (20-k) (20-k)) w:=by
 subst hl;have e:Tryz.prog.arrayLen 184=20:=by kernel_rfl
 have ee:Tryz.prog.elem 184=5:=by kernel_rfl
 rw [run_sliceAt_array_l w 184 ⟨B,0,none⟩ (by rw [e,ee];exact Tryz.underlying184) .i64 k (by omega) (by rw [e];omega),e,ee];simp [go_sem,slicedAt,Addr.add];rw [if_neg (by omega)];split<;>simp_all
theorem zn8 (B k L:Nat) (hL:L=20-k) (l cs:List UInt8) (w:World) (hh:w.heap[B]?=some (.cells (zdr cs) 184 (0,0))) (hl:cs.length=20) (e:l=cs.drop k):
  (convert 74 9 (.slice (some ⟨B,k,none⟩) L L)).run Tryz.prog w= .ok (.string ⟨l.toArray⟩) w:=by
 subst e hL
 have:=run_convert_bytes_back (P:=Tryz.prog) w 74 9 5 ⟨B,k,none⟩ (20-k) (cs.drop k) Tryz.underlying74 Tryz.underlying5 Tryz.underlying9 (fun j hj=>by
  have hp:(⟨B,k,none⟩:Addr).add j=⟨B,k+j,none⟩:=by unfold Addr.add;split<;>simp_all
  rw [hp,zzq2 _ _ _ _ _ _ hh,zfx (by simp at hj;omega)];simp)
 rw [List.length_drop,hl]at this;exact this
theorem zoW (n:Int) (w:World) (hn:I64 n):
  Calls Tryz.prog 93 #[.int .i64 n] w fun e w'=>e= .returned (.string ⟨(txt n).toArray⟩)/\Below w.heap.size w w':=by
 go_in;go_wp2_with (go_at_call 124;refine(zpj _ _ hn).mono ?_;rintro e w1 ⟨rfl,rfl⟩);go_loopw [4,5] (fun v l wr=> ∃(k m:Nat) (cs:List UInt8),v= .int .i64 k/\l= .int .u64 m/\2<=k/\k<=20/\m<10^(k-1)/\m<=9223372036854775808/\cs.length=20/\wr.heap[w.heap.size]?=some (.cells (zdr cs) 184 (0,0))/\Below w.heap.size w wr/\Hid (dig n.natAbs=dig m++cs.drop k)) (fun v _ _=>(intOf v).toNat)
 case atStart=>exact⟨20,n.natAbs,List.replicate 20 0,rfl,rfl,by omega,by omega,by have:=hn.1;have:=hn.2;omega,by have:=hn.1;have:=hn.2;omega,rfl,heap_alloc_new _ _,(zzR _ _).alloc (zzL _) _,by simp [Hid]⟩
 case round=>
  obtain⟨k,m,cs,rfl,rfl,hk1,hk2,hm,hm2,hl,hh,hB,HD⟩:=hrel;obtain⟨j,rfl⟩: ∃j,k=j+2:=⟨k-2,by omega⟩;rename World=>wr
  have HM:=zzH hm;clear hm;have HL:=zzH hl;clear hl;have hcell:wr.cell? ⟨w.heap.size,j+1,none⟩=some (.int .u8 (cs[j+1]'(by rw [HL.out];omega)).toNat):=by rw [zzq2 _ _ _ _ _ _ hh];exact zfx _
  have hcell0:wr.cell? ⟨w.heap.size,j,none⟩=some (.int .u8 (cs[j]'(by rw [HL.out];omega)).toNat):=by rw [zzq2 _ _ _ _ _ _ hh];exact zfx _
  have hfz0:wr.frozen? ⟨w.heap.size,j,none⟩=false:=zzq9 _ _ _ _ _ hh;have hfz:wr.frozen? ⟨w.heap.size,j+1,none⟩=false:=zzq9 _ _ _ _ _ hh
  have hh1:(wr.setCell ⟨w.heap.size,j+1,none⟩ (.int .u8 (48+(m:Int)%10))).heap[w.heap.size]?=some (.cells (zdr (cs.set (j+1) (dgt m))) 184 (0,0)):=by
   rw [zzq12 _ _ _ _ _ _ hh,<-zoD,zgN]
  have hd1:(cs.set (j+1) (dgt m)).drop (j+1)=dgt m::cs.drop (j+2):=zj4 _ _ _ (by rw [HL.out];omega);have hl1:(cs.set (j+1) (dgt m)).length=20:=by rw [List.length_set];exact HL.out
  have hB1:Below w.heap.size w (wr.setCell ⟨w.heap.size,j+1,none⟩ (.int .u8 (48+(m:Int)%10))):=hB.setCell (zzL _) _;have HH:=zzH hh;have HH1:=zzH hh1;have HD1:=zzH hd1;have HL1:=zzH hl1;clear hh hh1 hd1 hl1;by_cases small:m<10
  ·have hdm:=zfo small
   have HDM:=zzH hdm;clear hdm;have HT:Hid (dig n.natAbs=dgt m::cs.drop (j+2)):=by have:=HD.out;rw [HDM.out]at this;exact this
   by_cases neg:n<0
   ·have hh2:((wr.setCell ⟨w.heap.size,j+1,none⟩ (.int .u8 (48+(m:Int)%10))).setCell ⟨w.heap.size,j,none⟩ (.int .u8 45)).heap[w.heap.size]?=some (.cells (zdr ((cs.set (j+1) (dgt m)).set j 45)) 184 (0,0)):=by
     exact(zzS _ _ _ _ _ _ HH1.out).trans (congrArg (fun x=>some (Obj.cells x 184 (0,0))) (zgN _ j 45))
    have hcv:=zn8 w.heap.size j (20-j) rfl (txt n) _ _ hh2 (by rw [List.length_set];exact HL1.out) (by rw [zj4 _ _ _ (by rw [HL1.out];omega),HD1.out,txt,if_pos neg,HT.out]);have hsl:=zln w.heap.size ((j:Int)+2-1-1) j (by omega) (by omega);clear hh2;go_wp2;go_ret;exact⟨rfl,hB1.setCell (zzL _) _⟩
   ·have hcv:=zn8 w.heap.size (j+1) (19-j) (by omega) (txt n) _ _ HH1.out HL1.out (by rw [HD1.out,txt,if_neg neg,HT.out])
    have hsl:=zln w.heap.size ((j:Int)+2-1) (j+1) (by omega) (by omega);go_wp2;go_ret;exact⟨rfl,hB1⟩
  ·have hdm:=zhe small
   have HDM:=zzH hdm;clear hdm;go_wp2;go_roundw
   case rel=>
    have hj:1<=j:=by
     rcases Nat.eq_zero_or_pos j with h|h
     ·have:=HM.out;subst h;omega
     ·exact h
    refine⟨j+1,m/10,cs.set (j+1) (dgt m),by go_num,by go_num,by omega,by omega,?_,by omega,HL1.out,HH1.out,hB1,?_⟩
    ·have:=HM.out
     obtain⟨i,rfl⟩: ∃i,j=i+1:=⟨j-1,by omega⟩;rw [show i+1+2-1=i+1+1 by omega,zst]at this;rw [show i+1+1-1=i+1 by omega];omega
    ·exact zzH (by rw [HD.out,HDM.out,HD1.out,zzq4];rfl)
   case measure=>simp [intOf];omega
open Go.RowKit Go.Maps Go.WideMaps
theorem znt:Keyed Tryz.prog 9:=string_keyed Tryz.underlying9
theorem zrn (w:World):(zeroValue 3).run Tryz.prog w= .ok (.int .i64 0) w:=by kernel_rfl
def zfi (t:List UInt8->Int) (k:List UInt8) (c:Int):List UInt8->Int:=fun x=>if x=k then c else t x
def zcM (c:Int) (ws:List (List UInt8)) (t:List UInt8->Int):List UInt8->Int:=ws.foldl (fun t k=>zfi t k c) t
def zev (w:World) (M n:Nat) (t:List UInt8->Int):Prop:= ∃D:DataW Unit,w.ownsMap Tryz.prog 9 (plainElem Tryz.prog 3) M n D/\ ∀k:List UInt8,D.atKey (.string k) (.lit (.int .i64 0))= .lit (.int .i64 (t k))
theorem znN (k:List UInt8):WideAt.IsKeyLit (.string k):=by unfold WideAt.IsKeyLit;simp
theorem znU {D:DataW Unit} {t:List UInt8->Int} (hD:IsMap D) (h: ∀k:List UInt8,D.atKey (.string k) (.lit (.int .i64 0))= .lit (.int .i64 (t k))) (x:List UInt8) (c:Int):
  ∀k:List UInt8,(D.put (.string x) (.lit (.int .i64 c))).atKey (.string k) (.lit (.int .i64 0))= .lit (.int .i64 (zfi t x c k)):=by
 intro k;unfold zfi;by_cases e:k=x
 ·rw [if_pos e,e,atKey_put_same hD (znN x)]
 ·rw [if_neg e,atKey_put_other (by intro h2;injection h2 with h2;exact e h2)];exact h k
theorem zkV (c:Int) (ws:List (List UInt8)) (t:List UInt8->Int) {k:Nat} (h:k<ws.length):zcM c (ws.take (k+1)) t=zfi (zcM c (ws.take k) t) ws[k] c:=by
 unfold zcM;rw [List.take_add_one,zzq8 h,List.foldl_append];rfl
theorem zhg (c:Int) (s:ByteArray) (ws:List (List UInt8)) (B C M n:Nat) (t:List UInt8->Int) (w:World) (hws:Lib.fields s.data.toList=ws) (hc0:0<=c) (hc1:c<=10) (hs:s.size<4294967281) (hwl: ∀x∈ws,x.length<=1000) (hwn:ws.length<=1000) (hn:n<=1000000)
  (hascii: ∀(j:Nat) b,s.data.toList[j]?=some b->b.toNat<128) (htab:Lib.TabIs Tryz.prog w "strings.asciiSpace" .u8 Lib.asciiSpaceTab)
  (hB:B<=w.heap.size) (hBC:B<=C) (hBM:B<=M) (hCM:C≠M) (hC:w.heap[C]?=some (.cells #[.map (some M)] 159 (0,0))) (hM:zev w M n t):
  Calls Tryz.prog 122 #[.int .i64 c,.string s,.pointer (some ⟨C,0,none⟩)] w fun e w'=>e= .returned (.tuple #[])/\zev w' M (n+ws.length) (zcM c ws t)/\w'.heap[C]?=some (.cells #[.map (some M)] 159 (0,0))/\Below B w w':=by
 have HF:=fun w' h=>Tryz.strings_Fields s w' hs hascii h
 rw [hws]at HF;have HTab:=zzH htab;clear htab hws;have hMl:M<w.heap.size:=by obtain⟨D,h,_⟩:=hM;exact h.lt
 have hCl:=zc hC;go_in;go_wp2_with (go_at_call 123;refine(HF _ HTab.out).mono ?_;rintro e w1 ⟨rfl,rfl⟩);have hWd:=heap_alloc_new w (.cells (ws.map fun l=>Value.string ⟨l.toArray⟩).toArray 9);have hC1:=(Below.heap_alloc w (.cells (ws.map fun l=>Value.string ⟨l.toArray⟩).toArray 9) C hCl).trans hC;have hB1:Below B w (w.alloc (.cells (ws.map fun l=>Value.string ⟨l.toArray⟩).toArray 9)):=(zzR _ _).alloc hB _
 have hM1:zev (w.alloc (.cells (ws.map fun l=>Value.string ⟨l.toArray⟩).toArray 9)) M n t:=by
  obtain⟨D,h,h2⟩:=hM;exact⟨D,h.alloc _,h2⟩
 generalize hW:w.alloc (.cells (ws.map fun l=>Value.string ⟨l.toArray⟩).toArray 9)=W at *;generalize hb:w.heap.size=b at *;go_loopw [10] (fun i wr=> ∃k:Nat,k<=ws.length/\i= .int .i64 k/\zev wr M (n+k) (zcM c (ws.take k) t)/\wr.heap[C]?=some (.cells #[.map (some M)] 159 (0,0))/\wr.heap[b]?=some (.cells (ws.map fun l=>Value.string ⟨l.toArray⟩).toArray 9 (0,0))/\Below B w wr) (fun i _=>ws.length-(intOf i).toNat)
 case atStart=>exact⟨0,zzZ _,rfl,hM1,hC1,hWd,hB1⟩
 case round=>
  obtain⟨k,hk,rfl,⟨D,hown,hD⟩,hCr,hbr,hBr⟩:=hrel;rename World=>wr
  by_cases hlt:k<ws.length
  ·have hcw:wr.cell? ⟨b,k,none⟩=some (.string ⟨ws[k].toArray⟩):=by rw [zzq2 _ _ _ _ _ _ hbr];simp [hlt]
   have hcC:wr.cell? ⟨C,0,none⟩=some (.map (some M)):=by rw [zzq2 _ _ _ _ _ _ hCr];rfl
   have hkey:keyOf Tryz.prog 9 (.string ⟨ws[k].toArray⟩)=some (.string ws[k]):=by
    have:=hwl _ (List.getElem_mem hlt);exact keyOf_string_mk Tryz.underlying9 (by unfold maxLen;simp [ByteArray.size];omega)
   have hDM:=hown.isMap;have HP:=zzH (znU hDM hD ws[k] c);have HS:=zzH (zkV c ws t hlt);have hkl:=hwl _ (List.getElem_mem hlt);generalize ws[k]=x at *
   go_wp2_with (first
    |(at_mapUpdate;refine wpList_mapUpdate_own _ rfl _ _ _ 159 rfl 9 3 znt Tryz.underlying159 _ M (n+k) _ rfl hown (by unfold maxLen;omega) _ _ _ rfl rfl hkey _ [] (plainElem_int Tryz.underlying3 (WalkArith.wf_i64 (by omega))) ?_)
    |fail)
   intro w1 hown1 hgrow1;have hM2:zev w1 M (n+(k+1)) (zcM c (ws.take (k+1)) t):=⟨_,hown1,by rw [HS.out];exact HP.out⟩;have hC2:w1.heap[C]?=some (.cells #[.map (some M)] 159 (0,0)):=(hgrow1.block C (zc hCr) (fun e=>hCM (Option.some.inj e))).trans hCr
   have hb2:w1.heap[b]?=some (.cells (ws.map fun l=>Value.string ⟨l.toArray⟩).toArray 9 (0,0)):=(hgrow1.block b (zc hbr) (fun e=>by have:=Option.some.inj e;omega)).trans hbr
   have hB2:Below B w w1:=hBr.grown hgrow1 (by have:=hBr.size;omega) (fun j hj=>by cases hj;exact hBM);clear hown1 hgrow1 hown hcw hcC;go_wp2_with fail;go_roundw
   case rel=>exact⟨k+1,by omega,by go_num,hM2,hC2,hb2,hB2⟩
   case measure=>simp [intOf];omega
  ·obtain rfl:k=ws.length:=by omega
   have hMF:zev wr M (n+ws.length) (zcM c ws t):=⟨D,hown,by rw [List.take_length]at hD;exact hD⟩;clear hown;go_wp2_with fail
   (try simp only [Exit.inBlock,Exit.then])
   go_end0;exact⟨rfl,hMF,hCr,hBr⟩
open Go.RowKit Go.Maps Go.WideMaps
def words1:List (List UInt8):=[[105,115,95,105,110,116,101,103,101,114,47,49],[105,115,95,97,116,111,109,47,49],[105,115,95,98,111,111,108,101,97,110,47,49],[105,115,95,116,117,112,108,101,47,49],[105,115,95,112,105,100,47,49],[105,115,95,114,101,102,47,49],[105,115,95,108,105,115,116,47,49],[105,115,95,98,105,116,115,47,49],[105,115,95,98,121,116,101,115,47,49],[105,115,95,102,117,110,47,49],[105,115,95,102,117,110,47,50],[101,108,101,109,101,110,116,47,50],[115,105,122,101,47,49],[104,100,47,49],[116,108,47,49],[108,101,110,103,116,104,47,49],[98,105,116,95,115,105,122,101,47,49],[98,121,116,101,95,115,105,122,101,47,49],[97,98,115,47,49],[109,105,110,47,50],[109,97,120,47,50],[115,101,108,102,47,48],[110,111,100,101,47,48],[110,111,100,101,47,49]]
def zlw:List UInt8:=[105,115,95,105,110,116,101,103,101,114,47,49,32,105,115,95,97,116,111,109,47,49,32,105,115,95,98,111,111,108,101,97,110,47,49,32,105,115,95,116,117,112,108,101,47,49,32,105,115,95,112,105,100,47,49,32,105,115,95,114,101,102,47,49,32,105,115,95,108,105,115,116,47,49,32,105,115,95,98,105,116,115,47,49,32,105,115,95,98,121,116,101,115,47,49,32,105,115,95,102,117,110,47,49,32,105,115,95,102,117,110,47,50,32,101,108,101,109,101,110,116,47,50,32,115,105,122,101,47,49,32,104,100,47,49,32,116,108,47,49,32,108,101,110,103,116,104,47,49,32,98,105,116,95,115,105,122,101,47,49,32,98,121,116,101,95,115,105,122,101,47,49,32,97,98,115,47,49,32,109,105,110,47,50,32,109,97,120,47,50,32,115,101,108,102,47,48,32,110,111,100,101,47,48,32,110,111,100,101,47,49]
def words2:List (List UInt8):=[[115,101,116,101,108,101,109,101,110,116,47,51],[116,111,95,108,105,115,116,47,49],[116,111,95,116,117,112,108,101,47,49],[116,111,95,98,121,116,101,115,47,49],[102,114,111,109,95,98,121,116,101,115,47,49],[114,101,118,101,114,115,101,47,49],[109,101,109,98,101,114,47,50],[115,111,114,116,47,49],[112,97,99,107,47,49],[117,110,112,97,99,107,47,49],[101,114,114,111,114,47,49],[101,120,105,116,47,49],[116,104,114,111,119,47,49],[114,97,105,115,101,47,50]]
def zlu:List UInt8:=[115,101,116,101,108,101,109,101,110,116,47,51,32,116,111,95,108,105,115,116,47,49,32,116,111,95,116,117,112,108,101,47,49,32,116,111,95,98,121,116,101,115,47,49,32,102,114,111,109,95,98,121,116,101,115,47,49,32,114,101,118,101,114,115,101,47,49,32,109,101,109,98,101,114,47,50,32,115,111,114,116,47,49,32,112,97,99,107,47,49,32,117,110,112,97,99,107,47,49,32,101,114,114,111,114,47,49,32,101,120,105,116,47,49,32,116,104,114,111,119,47,49,32,114,97,105,115,101,47,50]
def words3:List (List UInt8):=[[115,112,97,119,110,47,49],[115,112,97,119,110,47,51],[115,112,97,119,110,95,108,105,110,107,47,49],[115,112,97,119,110,95,108,105,110,107,47,51],[115,112,97,119,110,95,109,111,110,105,116,111,114,47,49],[115,112,97,119,110,95,109,111,110,105,116,111,114,47,51],[114,101,113,117,101,115,116,47,52],[108,105,110,107,47,49],[117,110,108,105,110,107,47,49],[109,111,110,105,116,111,114,47,49],[100,101,109,111,110,105,116,111,114,47,49],[101,120,105,116,47,50],[116,114,97,112,47,49],[112,114,105,111,114,105,116,121,47,49],[114,101,103,105,115,116,101,114,47,50],[117,110,114,101,103,105,115,116,101,114,47,49],[119,104,101,114,101,105,115,47,49],[115,101,110,100,95,97,102,116,101,114,47,51],[99,97,110,99,101,108,47,49],[109,97,107,101,95,114,101,102,47,48],[99,108,111,99,107,47,48],[115,97,121,47,49],[110,111,100,101,115,47,48],[119,97,116,99,104,47,49],[117,110,119,97,116,99,104,47,49],[116,97,98,95,110,101,119,47,49],[116,97,98,95,112,117,116,47,51],[116,97,98,95,103,101,116,47,50],[116,97,98,95,100,101,108,47,50],[116,97,98,95,110,101,120,116,47,50],[116,97,98,95,115,105,122,101,47,49],[116,97,98,95,100,114,111,112,47,49]]
def zlC:List UInt8:=[115,112,97,119,110,47,49,32,115,112,97,119,110,47,51,32,115,112,97,119,110,95,108,105,110,107,47,49,32,115,112,97,119,110,95,108,105,110,107,47,51,32,115,112,97,119,110,95,109,111,110,105,116,111,114,47,49,32,115,112,97,119,110,95,109,111,110,105,116,111,114,47,51,32,114,101,113,117,101,115,116,47,52,32,108,105,110,107,47,49,32,117,110,108,105,110,107,47,49,32,109,111,110,105,116,111,114,47,49,32,100,101,109,111,110,105,116,111,114,47,49,32,101,120,105,116,47,50,32,116,114,97,112,47,49,32,112,114,105,111,114,105,116,121,47,49,32,114,101,103,105,115,116,101,114,47,50,32,117,110,114,101,103,105,115,116,101,114,47,49,32,119,104,101,114,101,105,115,47,49,32,115,101,110,100,95,97,102,116,101,114,47,51,32,99,97,110,99,101,108,47,49,32,109,97,107,101,95,114,101,102,47,48,32,99,108,111,99,107,47,48,32,115,97,121,47,49,32,110,111,100,101,115,47,48,32,119,97,116,99,104,47,49,32,117,110,119,97,116,99,104,47,49,32,116,97,98,95,110,101,119,47,49,32,116,97,98,95,112,117,116,47,51,32,116,97,98,95,103,101,116,47,50,32,116,97,98,95,100,101,108,47,50,32,116,97,98,95,110,101,120,116,47,50,32,116,97,98,95,115,105,122,101,47,49,32,116,97,98,95,100,114,111,112,47,49]
def words4:List (List UInt8):=[[97,112,112,108,121,47,50],[97,112,112,108,121,47,51]]
def zlE:List UInt8:=[97,112,112,108,121,47,50,32,97,112,112,108,121,47,51]
def zfq:List UInt8->Int:=zcM 4 words4 (zcM 3 words3 (zcM 2 words2 (zcM 1 words1 (fun _=>0))))
theorem zgw {l:List UInt8} (h:l.all (fun b=>decide (b.toNat<128))=true): ∀(j:Nat) b,l[j]?=some b->b.toNat<128:=fun j b hb=>by
 have:=List.all_eq_true.1 h b (List.mem_of_getElem? hb)
 simpa using this
theorem zhf {ws:List (List UInt8)} (h:ws.all (fun x=>decide (x.length<=1000))=true): ∀x∈ws,x.length<=1000:=fun x hx=>by
 have:=List.all_eq_true.1 h x hx
 simpa using this
theorem zob:Lib.fields zlw=words1:=by kernel_rfl
theorem zno:Lib.fields zlu=words2:=by kernel_rfl
theorem zoO:Lib.fields zlC=words3:=by kernel_rfl
theorem zoi:Lib.fields zlE=words4:=by kernel_rfl
def SpaceAt (w:World):Prop:=Lib.TabIs Tryz.prog w "strings.asciiSpace" .u8 Lib.asciiSpaceTab
theorem SpaceAt.below {w w':World} (h:SpaceAt w) (hb:Below w.heap.size w w'):SpaceAt w':=Joins.tab_stays (g:=1) (by kernel_rfl) h hb (zzL _)
theorem zk4 (w:World) (hsp:SpaceAt w):Calls Tryz.prog 92 #[] w fun e w'=> ∃M,e= .returned (.map (some M))/\zev w' M 72 zfq/\Below w.heap.size w w':=by
 have hmm:= @run_makeMap Tryz.prog;have HS:=zzH hsp;go_in;go_wp2_with fail
 have hC0:((w.alloc (.map #[] 0)).alloc (.cells #[.map (some w.heap.size)] 159)).heap[w.heap.size+1]?=some (.cells #[.map (some w.heap.size)] 159 (0,0)):=by
  have h:=heap_alloc_new (w.alloc (.map #[] 0)) (.cells #[.map (some w.heap.size)] 159)
  rwa [show(w.alloc (.map #[] 0)).heap.size=w.heap.size+1 by simp]at h
 have hM0:zev ((w.alloc (.map #[] 0)).alloc (.cells #[.map (some w.heap.size)] 159)) w.heap.size 0 (fun _=>0):=⟨_,(World.ownsMap_made _ _ _ _).alloc _,fun k=>rfl⟩;have hB0:Below w.heap.size w ((w.alloc (.map #[] 0)).alloc (.cells #[.map (some w.heap.size)] 159)):=((zzR _ _).alloc (zzL _) _).alloc (by simp) _;have hS0:=zzH (hsp.below hB0);have hsz:w.heap.size<=((w.alloc (.map #[] 0)).alloc (.cells #[.map (some w.heap.size)] 159)).heap.size:=hB0.size;generalize(w.alloc (.map #[] 0)).alloc (.cells #[.map (some w.heap.size)] 159)=w0 at *;clear hmm;refine(zhg 1 _ words1 w.heap.size (w.heap.size+1) w.heap.size 0 (fun _=>0) w0 zob (by decide) (by decide) (by decide) (zhf (by kernel_rfl)) (by decide) (by decide) (zgw (l:=zlw) (by kernel_rfl)) hS0.out hsz (by omega) (zzL _) (by omega) hC0 hM0).mono ?_;rintro e w1 ⟨rfl,hM1,hC1,hB1'⟩;have hB1:Below w.heap.size w w1:=hB0.trans hB1';have hsz1:w.heap.size<=w1.heap.size:=hB1.size;have hS1:=zzH (hsp.below hB1);change zev w1 w.heap.size 24 _ at hM1;generalize ht1:zcM 1 words1 (fun _=>0)=t1 at hM1;have HT1:=zzH ht1;clear ht1 hM0 hC0 hB1' hB0 hsz;go_wp2_with fail;refine(zhg 2 _ words2 w.heap.size (w.heap.size+1) w.heap.size 24 t1 w1 zno (by decide) (by decide) (by decide) (zhf (by kernel_rfl)) (by decide) (by decide) (zgw (l:=zlu) (by kernel_rfl)) hS1.out hsz1 (by omega) (zzL _) (by omega) hC1 hM1).mono ?_;rintro e w2 ⟨rfl,hM2,hC2,hB2'⟩;have hB2:Below w.heap.size w w2:=hB1.trans hB2';have hsz2:w.heap.size<=w2.heap.size:=hB2.size;have hS2:=zzH (hsp.below hB2);change zev w2 w.heap.size 38 _ at hM2;generalize ht2:zcM 2 words2 t1=t2 at hM2;have HT2:=zzH ht2;clear ht2 hM1 hC1 hB2' hB1 hsz1;go_wp2_with fail;refine(zhg 3 _ words3 w.heap.size (w.heap.size+1) w.heap.size 38 t2 w2 zoO (by decide) (by decide) (by decide) (zhf (by kernel_rfl)) (by decide) (by decide) (zgw (l:=zlC) (by kernel_rfl)) hS2.out hsz2 (by omega) (zzL _) (by omega) hC2 hM2).mono ?_;rintro e w3 ⟨rfl,hM3,hC3,hB3'⟩;have hB3:Below w.heap.size w w3:=hB2.trans hB3';have hsz3:w.heap.size<=w3.heap.size:=hB3.size;have hS3:=zzH (hsp.below hB3);change zev w3 w.heap.size 70 _ at hM3;generalize ht3:zcM 3 words3 t2=t3 at hM3;have HT3:=zzH ht3;clear ht3 hM2 hC2 hB3' hB2 hsz2;go_wp2_with fail;refine(zhg 4 _ words4 w.heap.size (w.heap.size+1) w.heap.size 70 t3 w3 zoi (by decide) (by decide) (by decide) (zhf (by kernel_rfl)) (by decide) (by decide) (zgw (l:=zlE) (by kernel_rfl)) hS3.out hsz3 (by omega) (zzL _) (by omega) hC3 hM3).mono ?_;rintro e w4 ⟨rfl,hM4,hC4,hB4'⟩;have hB4:Below w.heap.size w w4:=hB3.trans hB4';have hsz4:w.heap.size<=w4.heap.size:=hB4.size;have hS4:=zzH (hsp.below hB4);change zev w4 w.heap.size 72 _ at hM4;generalize ht4:zcM 4 words4 t3=t4 at hM4;have HT4:=zzH ht4;clear ht4 hM3 hC3 hB4' hB3 hsz3;have hc4:w4.cell? ⟨w.heap.size+1,0,none⟩=some (.map (some w.heap.size)):=by rw [zzq2 _ _ _ _ _ _ hC4];rfl
 go_wp2_with fail;go_ret;have e:zfq=t4:=by unfold zfq;rw [HT1.out,HT2.out,HT3.out,HT4.out]
 exact⟨_,rfl,by rw [e];exact hM4,hB4⟩
def zbJ (s:ByteArray) (n:Int):Int:=if n<0∨0<=Lib.indexByte s.data.toList 47 then 0 else zfq (s.data.toList++ [47]++txt n)
theorem zrR {n:Int} (h:I64 n):(txt n).length<=21:=by
 unfold I64 at h;have:=zm5 (m:=n.natAbs) (by omega);unfold txt;split<;>simp<;>omega
theorem zgR (s:ByteArray) (n:Int) (w:World) (hsp:SpaceAt w) (hs:s.size<=140737488355328) (hn:I64 n):Calls Tryz.prog 68 #[.string s,.int .i64 n] w fun e w'=>e= .returned (.int .i64 (zbJ s n))/\Below w.heap.size w w':=by
 by_cases hneg:n<0
 ·have E:Hid (zbJ s n=0):=zzH (by unfold zbJ;rw [if_pos (.inl hneg)])
  go_in;go_wp2_with fail;go_ret;exact⟨zdl E.out.symm,zzR _ _⟩
 ·have HC:=Tryz.strings_Contains_one s 47
  by_cases hsl:0<=Lib.indexByte s.data.toList 47
  ·have E:Hid (zbJ s n=0):=zzH (by unfold zbJ;rw [if_pos (.inr hsl)])
   rw [decide_eq_true hsl]at HC;go_in;go_wp2_with (go_at_call 91;refine(HC _).mono ?_;rintro e w1 ⟨rfl,rfl⟩);go_ret;exact⟨zdl E.out.symm,zzR _ _⟩
  ·have E:Hid (zbJ s n=zfq (s.data.toList++ [47]++txt n)):=zzH (by unfold zbJ;rw [if_neg (by omega)])
   rw [decide_eq_false hsl]at HC;have HL:=zzH (zrR hn);go_in;have hsz:s.size+1+(txt n).length<=9223372036854775807:=by have:=HL.out;omega
   have HL2:Hid ((ByteArray.mk (s.data.toList++ [47]++txt n).toArray).size<=maxLen):=zzH (by
    have h1:(ByteArray.mk (s.data.toList++ [47]++txt n).toArray).size=s.size+1+(txt n).length:=by
     show(s.data.toList++ [47]++txt n).toArray.size=_;rw [List.size_toArray,zzq1,zzq1];rfl
    rw [h1];unfold maxLen;omega)
   have hky:keyOf Tryz.prog 9 (.string (s++⟨#[47]⟩++⟨(txt n).toArray⟩))=some (.string (s.data.toList++ [47]++txt n)):=by
    have h:=keyOf_string_mk (P:=Tryz.prog) (k:=9) (s:=⟨(s.data.toList++ [47]++txt n).toArray⟩) Tryz.underlying9 (HL2.out)
    have e:(⟨(s.data.toList++ [47]++txt n).toArray⟩:ByteArray)=s++⟨#[47]⟩++⟨(txt n).toArray⟩:=by
     apply ByteArray.ext;simp
    rwa [e]at h
   have HK:=zzH hky;clear hky;go_wp2_with (go_at_call 91;refine(HC _).mono ?_;rintro e w0 ⟨rfl,rfl⟩);refine(zk4 _ hsp).mono ?_;rintro e w1 ⟨M,rfl,⟨D,hown,hD⟩,hB1⟩;go_wp2_with (go_at_call 93;refine(zoW n _ hn).mono ?_);rintro e w2 ⟨rfl,hB2⟩;have hown2:w2.ownsMap Tryz.prog 9 (plainElem Tryz.prog 3) M _ D:=hown.kept (row:=none) ⟨hB2.os,hB2.tape,hB2.output,hB2.size,fun k hk _=>hB2.block k hk⟩ (by simp);have hB12:Below w0.heap.size w0 w2:=ze hB1 hB2;have HD:=zzH (hD (s.data.toList++ [47]++txt n));clear hown hD HC;go_wp2_with (at_lookup;refine wpList_lookup_own_int _ rfl _ _ 159 rfl 9 3 .i64 znt Tryz.underlying159 Tryz.underlying3 (zrn _) M 72 D rfl hown2 _ (.string (s.data.toList++ [47]++txt n)) rfl HK.out ?_);intro c hat hwc
   have E2:Hid (c=zbJ s n):=zzH (by
    rw [E.out];have h1:=HD.out;simp only [zzq4,List.singleton_append]at h1 hat ⊢;have h:=h1.symm.trans hat;injection h with h;injection h with _ h;exact h.symm)
   clear hat hwc;go_wp2_with fail;go_ret;exact⟨zdl E2.out,hB12⟩
def zgW (code:List RIns) (i:Int):Int:=((code[i.toNat]?).map RIns.op).getD 0
def zb2 (code:List RIns) (i:Nat) (x:RIns) (h:Nat):Bool:=
 if x.op=39∨x.op=40 then wi x.to 0 ((code.length:Int)-1)&&(zgW code x.to==37)
 else x.cases.all (fun c=>wi c.to ((i:Int)+1) ((code.length:Int)-1))&&(!zm h 64||wi x.to ((i:Int)+1) ((code.length:Int)-1))
theorem zjK (B:Nat) (u:RUnit) (lo fo go:Option Addr) (lc fc gc cc:Nat) (bc oc:Nat) (i:Nat) (h l' h':Int) (so co' go':Option Addr) (sc cc' gc':Nat) (w:World) (hu:UBox w B u lo fo go (some ⟨bc,oc,none⟩) lc fc gc cc) (hcode:SlAt w 10 (InsR w) (some ⟨bc,oc,none⟩) u.code) (hl:u.code.length<=9223372036854775807) (hi:i<u.code.length)
  (x:RIns) (hx:IBox w bc (oc+i*10) x so co' go' sc cc' gc') (hop:x.op=39∨x.op=40) (hn:Nat):
  Calls Tryz.prog 45 #[.pointer (some ⟨B,0,none⟩),.int .i64 i,.agg #[.int .i64 h,.int .i64 l',.int .i64 h']] w fun e w'=>e= .returned (.bool (zb2 u.code i x hn))/\Below w.heap.size w w':=by
 have hbe:Below w.heap.size w (w.alloc (.cells #[.int .i64 h,.int .i64 l',.int .i64 h'] 87)):=(zzR _ _).alloc (zzL _) _;have b5:=(hu.below hbe).c5;have hxb:=hx.below hbe;have c0:=hxb.c0;have c4:=hxb.c4;have hBl:=(hu.below hbe).lt;have hbl:=hxb.lt;have hw1:IntKind.i64.wrap ((u.code.length:Int)-1)=(u.code.length:Int)-1:=by rw [zzq3];omega
 have hwc:=fun wx=>zX x.to 0 ((u.code.length:Int)-1) wx
 have HBE:=zzH hbe;have E0:Hid (zb2 u.code i x hn=(wi x.to 0 ((u.code.length:Int)-1)&&(zgW u.code x.to==37))):=zzH (by unfold zb2;rw [if_pos hop]);have HCO:=zzH hcode;clear hu hx hxb hcode;generalize hxo:x.op=xo at *;have hE: ∀j,j<u.code.length->True:=fun _ _=>trivial
 clear hE hxo;by_cases hin:0<=x.to/\x.to<=(u.code.length:Int)-1
 ·have hwi:=zeq hin.1 hin.2
  rw [hwi]at hwc;obtain⟨m,hm⟩: ∃m:Nat,x.to=(m:Int):=⟨x.to.toNat,by omega⟩;have hml:m<u.code.length:=by omega
  obtain⟨b2,o2,so2,co2,go2,sc2,cc2,gc2,hao,hmx⟩:=ze4 HCO.out hml;obtain⟨rfl,rfl⟩:bc=b2/\oc=o2:=by injection hao with h;injection h with h1 h2;exact⟨h1,h2⟩
  have d0:=(hmx.below HBE.out).c0;have hop2:zgW u.code x.to=(u.code[m]).op:=by unfold zgW;rw [hm,zzq11,zzq8 hml];rfl
  rw [hwi,hop2,Bool.true_and]at E0;rw [hm]at hwc c4;generalize(u.code[m]).op=oo at *;have E1:=zzH E0.out;clear hmx hao hin hwi hop2 hm HCO E0;generalize zb2 u.code i x hn=r at *
  cases hq:(oo==37)
  all_goals
   rw [hq]at E1;rcases hop with rfl|rfl
   all_goals
    go_in;go_wp2_with fail;go_quiet (fail);have HQ:=zzH (zY HBE.out nq);have b5':((w.alloc (.cells #[.int .i64 h,.int .i64 l',.int .i64 h'] 87)).drewN nq).cell? ⟨B,5,none⟩=some (.slice (some ⟨bc,oc,none⟩) u.code.length cc):=b5;have c0':((w.alloc (.cells #[.int .i64 h,.int .i64 l',.int .i64 h'] 87)).drewN nq).cell? ⟨bc,oc+i*10,none⟩=_:=c0;have c4':((w.alloc (.cells #[.int .i64 h,.int .i64 l',.int .i64 h'] 87)).drewN nq).cell? ⟨bc,oc+i*10+4,none⟩=_:=c4;have d0':((w.alloc (.cells #[.int .i64 h,.int .i64 l',.int .i64 h'] 87)).drewN nq).cell? ⟨bc,oc+m*10,none⟩=_:=d0;clear b5 c0 c4 d0 HBE;generalize(w.alloc (.cells #[.int .i64 h,.int .i64 l',.int .i64 h'] 87)).drewN nq=W1 at *;go_wp2_with fail;go_quiet ((go_at_call 64;exact Calls.quiet_of_same ((hwc _).mono fun _ _ ⟨a,b⟩=>⟨a,b.symm⟩)));go_wp2_with fail;go_ret;exact⟨zr E1.out.symm,zY HQ.out _⟩
 ·have hwi:=zdN hin
  rw [hwi]at hwc;rw [hwi,Bool.false_and]at E0;have E1:=zzH E0.out;clear hin hwi HCO E0;generalize zb2 u.code i x hn=r at *;rcases hop with rfl|rfl
  all_goals
   go_in;go_wp2_with fail;go_quiet (fail);have HQ:=zzH (zY HBE.out nq);have b5':((w.alloc (.cells #[.int .i64 h,.int .i64 l',.int .i64 h'] 87)).drewN nq).cell? ⟨B,5,none⟩=some (.slice (some ⟨bc,oc,none⟩) u.code.length cc):=b5;have c0':((w.alloc (.cells #[.int .i64 h,.int .i64 l',.int .i64 h'] 87)).drewN nq).cell? ⟨bc,oc+i*10,none⟩=_:=c0;have c4':((w.alloc (.cells #[.int .i64 h,.int .i64 l',.int .i64 h'] 87)).drewN nq).cell? ⟨bc,oc+i*10+4,none⟩=_:=c4;clear b5 c0 c4 HBE;generalize(w.alloc (.cells #[.int .i64 h,.int .i64 l',.int .i64 h'] 87)).drewN nq=W1 at *;go_wp2_with fail;go_quiet ((go_at_call 64;exact Calls.quiet_of_same ((hwc _).mono fun _ _ ⟨a,b⟩=>⟨a,b.symm⟩)));go_wp2_with fail;go_ret;exact⟨zr E1.out.symm,zY HQ.out _⟩
theorem zj6 (B:Nat) (u:RUnit) (lo fo go:Option Addr) (lc fc gc cc:Nat) (bc oc:Nat) (i:Nat) (hn:Nat) (l' h':Int) (so co' go':Option Addr) (sc cc' gc':Nat) (w:World) (hu:UBox w B u lo fo go (some ⟨bc,oc,none⟩) lc fc gc cc) (hl:u.code.length<=9223372036854775807) (hi:i<u.code.length)
  (x:RIns) (hx:IBox w bc (oc+i*10) x so co' go' sc cc' gc') (hop: ¬(x.op=39∨x.op=40)) (hh:hn<1000):
  Calls Tryz.prog 45 #[.pointer (some ⟨B,0,none⟩),.int .i64 i,.agg #[.int .i64 hn,.int .i64 l',.int .i64 h']] w fun e w'=>e= .returned (.bool (zb2 u.code i x hn))/\Below w.heap.size w w':=by
 have hbe:Below w.heap.size w (w.alloc (.cells #[.int .i64 hn,.int .i64 l',.int .i64 h'] 87)):=(zzR _ _).alloc (zzL _) _;have hbr:=heap_alloc_new w (.cells #[.int .i64 hn,.int .i64 l',.int .i64 h'] 87);have b5:=(hu.below hbe).c5;have hxb:=hx.below hbe;have c0:=hxb.c0;have hBl:=(hu.below hbe).lt;have hbl:=hxb.lt;have rc:=hxb.rcases;have t39:(x.op==39)=false:=zzB.2 (fun h=>hop (.inl h));have t40:(x.op==40)=false:=zzB.2 (fun h=>hop (.inr h));have hw1:IntKind.i64.wrap ((u.code.length:Int)-1)=(u.code.length:Int)-1:=by rw [zzq3];omega
 have hwc:=fun n wx=>zX n ((i:Int)+1) ((u.code.length:Int)-1) wx
 have HBE:=zzH hbe;have HBR:=zzH hbr;have HX:=zzH hxb;have ha:bits .and .i64 (hn:Int) 64=((hn&&&64:Nat):Int):=zhj hn 64 (by omega) (by omega)
 have hab:((((hn&&&64:Nat):Int))==0)= !zm hn 64:=by
  unfold zm;by_cases c:hn&&&64=0
  ·rw [c];rfl
  ·rw [decide_eq_true c];show _=false;rw [zzq5];omega
 have E0:Hid (zb2 u.code i x hn=(x.cases.all (fun c=>wi c.to ((i:Int)+1) ((u.code.length:Int)-1))&&(!zm hn 64||wi x.to ((i:Int)+1) ((u.code.length:Int)-1)))):=zzH (by unfold zb2;rw [if_neg hop]);have HAB:=zzH hab;have HI:Hid (x.cases.all (fun c=>wi c.to ((i:Int)+1) ((u.code.length:Int)-1))=(x.cases.drop 0).all (fun c=>wi c.to ((i:Int)+1) ((u.code.length:Int)-1))):=zzH rfl;clear hu hx hxb hop hab hbr hbe;generalize zb2 u.code i x hn=r at *;go_in;go_wp2_with fail;go_quiet (fail);have HQ:=zzH (zY HBE.out nq);have HQ2:Hid (Below (w.alloc (.cells #[.int .i64 hn,.int .i64 l',.int .i64 h'] 87)).heap.size (w.alloc (.cells #[.int .i64 hn,.int .i64 l',.int .i64 h'] 87)) ((w.alloc (.cells #[.int .i64 hn,.int .i64 l',.int .i64 h'] 87)).drewN nq)):=zzH (zY (zzR _ _) nq);have HX1:=zzH (HX.out.below HQ2.out);have HR1:Hid (((w.alloc (.cells #[.int .i64 hn,.int .i64 l',.int .i64 h'] 87)).drewN nq).heap[w.heap.size]?=some (.cells #[.int .i64 hn,.int .i64 l',.int .i64 h'] 87 (0,0))):=zzH HBR.out
 clear b5 c0 HBE HQ2 HX HBR hBl hbl;generalize(w.alloc (.cells #[.int .i64 hn,.int .i64 l',.int .i64 h'] 87)).drewN nq=W1 at *;have c0:=HX1.out.c0;have c8:=HX1.out.c8;have hwi2:IntKind.i64.wrap ((i:Int)+1)=(i:Int)+1:=by rw [zzq3];omega
 go_wp2_with fail;go_loopw [55] (fun j wr=> ∃k:Nat,k<=x.cases.length/\j= .int .i64 k/\Hid (x.cases.all (fun c=>wi c.to ((i:Int)+1) ((u.code.length:Int)-1))=(x.cases.drop k).all (fun c=>wi c.to ((i:Int)+1) ((u.code.length:Int)-1)))/\Below W1.heap.size W1 wr) (fun j _=>x.cases.length-(intOf j).toNat)
 case atStart=>exact⟨0,zzZ _,rfl,HI,zzR _ _⟩
 case round=>
  obtain⟨k,hk,rfl,HK,hBw⟩:=hrel;rename World=>wr
  by_cases hlt:k<x.cases.length
  ·obtain⟨b1,off1,hco,hb1,q0,q1,rl,rt⟩:=(HX1.out.below hBw).cases.case hlt
   subst hco;have HST:Hid ((x.cases.drop k).all (fun c=>wi c.to ((i:Int)+1) ((u.code.length:Int)-1))=(wi x.cases[k].to ((i:Int)+1) ((u.code.length:Int)-1)&&(x.cases.drop (k+1)).all (fun c=>wi c.to ((i:Int)+1) ((u.code.length:Int)-1)))):=zzH (by rw [List.drop_eq_getElem_cons hlt,List.all_cons]);have hwc1:=fun wx=>hwc x.cases[k].to wx
   generalize wi x.cases[k].to ((i:Int)+1) ((u.code.length:Int)-1)=q at *;generalize x.cases[k].to=ct at *;generalize x.cases[k].lit=cl at *;have HBA:Hid (Below W1.heap.size W1 (wr.alloc (.cells #[.int .i64 cl,.int .i64 ct] 94))):=zzH (hBw.alloc hBw.size _)
   cases q with
   |true=>
    have HK2:Hid (x.cases.all (fun c=>wi c.to ((i:Int)+1) ((u.code.length:Int)-1))=(x.cases.drop (k+1)).all (fun c=>wi c.to ((i:Int)+1) ((u.code.length:Int)-1))):=zzH (by rw [HK.out,HST.out,Bool.true_and]);go_wp2_with (go_at_call 64;refine(hwc1 _).mono ?_;rintro e w1 ⟨rfl,rfl⟩);go_roundw
    case rel=>exact⟨k+1,by omega,by go_num,HK2,HBA.out⟩
    case measure=>simp [intOf];omega
   |false=>
    have E:Hid (r=false):=zzH (by rw [E0.out,HK.out,HST.out];rfl);go_wp2_with (go_at_call 64;refine(hwc1 _).mono ?_;rintro e w1 ⟨rfl,rfl⟩);go_ret;exact⟨zr E.out.symm,HQ.out.trans (HBA.out.mono HQ.out.size)⟩
  ·have EK:Hid (r=(!zm hn 64||wi x.to ((i:Int)+1) ((u.code.length:Int)-1))):=zzH (by rw [E0.out,HK.out,zzq6 (by omega)];rfl)
   have hr:=(hBw.block w.heap.size (zc HR1.out)).trans HR1.out;have n0:wr.cell? ⟨w.heap.size,0,none⟩=some (.int .i64 hn):=by rw [zzq2 _ _ _ _ _ _ hr];rfl
   have c4:=(HX1.out.below hBw).c4;have hwc1:=fun wx=>hwc x.to wx
   have hab:=HAB.out;generalize wi x.to ((i:Int)+1) ((u.code.length:Int)-1)=q at *;generalize zm hn 64=hb at *;clear hr;generalize hn&&&64=z at *
   cases hb with
   |false=>
    have E:Hid (r=true):=zzH (by rw [EK.out];rfl);go_wp2_with fail;go_ret;exact⟨zr E.out.symm,HQ.out.trans (hBw.mono HQ.out.size)⟩
   |true=>
    have E:Hid (r=q):=zzH (by rw [EK.out];rfl);go_wp2_with (go_at_call 64;refine(hwc1 _).mono ?_;rintro e w1 ⟨rfl,rfl⟩);go_ret;exact⟨zr E.out.symm,HQ.out.trans (hBw.mono HQ.out.size)⟩
theorem zk6 (B:Nat) (u:RUnit) (lo fo go:Option Addr) (lc fc gc cc:Nat) (bc oc:Nat) (i:Nat) (hn:Nat) (l' h':Int) (so co' go':Option Addr) (sc cc' gc':Nat) (w:World) (hu:UBox w B u lo fo go (some ⟨bc,oc,none⟩) lc fc gc cc) (hcode:SlAt w 10 (InsR w) (some ⟨bc,oc,none⟩) u.code) (hl:u.code.length<=9223372036854775807) (hi:i<u.code.length)
  (x:RIns) (hx:IBox w bc (oc+i*10) x so co' go' sc cc' gc') (hh:hn<1000):
  Calls Tryz.prog 45 #[.pointer (some ⟨B,0,none⟩),.int .i64 i,.agg #[.int .i64 hn,.int .i64 l',.int .i64 h']] w fun e w'=>e= .returned (.bool (zb2 u.code i x hn))/\Below w.heap.size w w':=by
 by_cases hop:x.op=39∨x.op=40
 ·exact zjK B u lo fo go lc fc gc cc bc oc i hn l' h' so co' go' sc cc' gc' w hu hcode hl hi x hx hop hn
 ·exact zj6 B u lo fo go lc fc gc cc bc oc i hn l' h' so co' go' sc cc' gc' w hu hl hi x hx hop hh
def Stays (w w':World):Prop:= ∀(k:Nat) (cs:Array Value) (t:TypeId) (fr:Nat × Nat),w.heap[k]?=some (.cells cs t fr)->t≠5->t≠76->w'.heap[k]?=some (.cells cs t fr)
theorem Stays.refl (w:World):Stays w w:=fun _ _ _ _ h _ _=>h
theorem Stays.trans {a b c:World} (h:Stays a b) (k:Stays b c):Stays a c:=fun i cs t fr hi h1 h2=>k i cs t fr (h i cs t fr hi h1 h2) h1 h2
theorem Stays.alloc {a b:World} (h:Stays a b) (o:Obj):Stays a (b.alloc o):=fun i cs t fr hi h1 h2=>by
 have:=h i cs t fr hi h1 h2;exact(Below.heap_alloc b o i (zc this)).trans this
theorem Stays.below {a b c:World} (h:Stays a b) (hb:Below b.heap.size b c):Stays a c:=fun i cs t fr hi h1 h2=>by
 have:=h i cs t fr hi h1 h2;exact(hb.block i (zc this)).trans this
theorem Stays.grown {a b c:World} {B size n:Nat} {bv:Value} {xs:List Value} (h:Stays a b) (ho:b.ownsRow B 5 size bv n xs) (hg:b.grownBy c bv.ownBlock):Stays a c:=fun i cs t fr hi h1 h2=>by
 exact zz56
theorem Stays.store {a b:World} {r:Nat} {cs0:Array Value} {fr0:Nat × Nat} (h:Stays a b) (hr:b.heap[r]?=some (.cells cs0 76 fr0)) (v:Value):Stays a (b.setCell ⟨r,0,none⟩ v):=fun i cs t fr hi h1 h2=>by
 exact zz57
def zy (l:List UInt8):List Value:=l.map fun b=>Value.int .u8 (b.toNat:Int)
theorem zeJ (a b:List UInt8):zy (a++b)=zy a++zy b:=by simp [zy]
def WrAt (B r:Nat) (l:List UInt8) (w:World):Prop:=B<=r/\B<=w.heap.size/\ ∃bv,w.heap[r]?=some (.cells #[bv] 76 (0,0))/\w.ownsRow B 5 1 bv l.length (zy l)/\bv.ownBlock≠some r
theorem ze2:(Tryz.prog.info? 5).map (fun i=>(i.zero,i.size,i.bytes))=some (some (.int .u8 0),1,1):=by kernel_rfl
def zce:Nat->Nat->List UInt8
 |0,_=>[]
 |f+1,n=>if n<128 then [UInt8.ofNat n]else UInt8.ofNat (n%128+128)::zce f (n/128)
def zg (n:Nat):List UInt8:=zce 10 n
theorem zi6: ∀(f n:Nat),(zce f n).length<=f
 |0,_=>zzZ _
 |f+1,n=>by
  unfold zce;split
  ·simp
  ·have:=zi6 f (n/128);simp;omega
theorem zr7 (m:Nat):bits .or .u8 ((m:Int)%256) 128=(((UInt8.ofNat (m%128+128)).toNat:Nat):Int):=by
 have h1:(BitVec.ofInt 8 ((m:Int)%256)).toNat=m%256:=by
  have e:((m:Int)%256)=((m%256:Nat):Int):=by omega
  rw [e,BitVec.ofInt_natCast,BitVec.toNat_ofNat];omega
 have h2:(BitVec.ofInt 8 128).toNat=128:=by decide
 have hx:m%256 |||128=m%128+128:=by
  have h:=Nat.two_pow_add_eq_or_of_lt (i:=7) (b:=m%128) (by omega) 1;have e:m%256=m%128∨m%256=128+m%128:=by omega
  rcases e with e|e
  ·rw [e,Nat.or_comm];rw [show(2^7*1:Nat)=128 by rfl]at h;omega
  ·rw [show(2^7*1:Nat)=128 by rfl]at h
   rw [e,h,Nat.or_comm 128,Nat.or_assoc,Nat.or_self,Nat.or_comm,<-h];omega
 show IntKind.u8.wrap ((BitVec.ofInt 8 ((m:Int)%256) |||BitVec.ofInt 8 128).toNat:Int)=_;rw [BitVec.toNat_or,h1,h2,hx,IntKind.wrap_u8,UInt8.toNat_ofNat'];omega
theorem zru (m:Nat):((m:Int)%256)=((UInt8.ofNat m).toNat:Int):=by rw [UInt8.toNat_ofNat'];omega
theorem zkx {B r:Nat} {l:List UInt8} {x:UInt8} {w:World} {bv v':Value} (hBr:B<=r) (hBw:B<=w.heap.size) (hb:w.heap[r]?=some (.cells #[bv] 76 (0,0))) (ho:w.ownsRow B 5 1 v' (l.length+1) (zy l++ [.int .u8 (x.toNat:Int)])) (hne:v'.ownBlock≠some r):
  WrAt B r (l++ [x]) (w.setCell ⟨r,0,none⟩ v'):=by
 refine⟨hBr,by simpa [World.setCell] using hBw,v',?_,?_,hne⟩
 ·simp [World.setCell,hb,Array.getElem?_modify]
 ·have e:zy (l++ [x])=zy l++ [.int .u8 (x.toNat:Int)]:=by rw [zeJ];rfl
  rw [e,zzq1];exact zz58
theorem zes {w:World} {B:Nat} {e:TypeId} {size:Nat} {v:Value} {n:Nat} {xs:List Value} (h:w.ownsRow B e size v n xs): ∃ao cap,v= .slice ao n cap:=by
 rcases h.2 with⟨rfl,rfl⟩|⟨g,cap,cur,rfl,_⟩
 ·exact⟨_,_,rfl⟩
 ·exact⟨_,_,rfl⟩
theorem zbD (B r:Nat) (l:List UInt8) (n:Int) (w:World) (h:WrAt B r l w) (h0:0<=n) (h1:n<=9223372036854775807) (hl:l.length<=70368744177664):
  Calls Tryz.prog 27 #[.pointer (some ⟨r,0,none⟩),.int .i64 n] w fun e w'=>e= .returned (.tuple #[])/\WrAt B r (l++zg n.toNat) w'/\Below B w w'/\Stays w w':=by
 obtain⟨i0,hi,hz0,hz1,hz2⟩:=info_parts ze2;obtain⟨m0,rfl⟩:=Int.eq_ofNat_of_zero_le h0;rw [zzq11];have HT:Hid (l++zg m0=l++zce 10 m0):=zzH rfl;have HBL:=zzH h.2.1;go_in;go_wp2_with fail;go_loopw [4] (fun uv wr=> ∃(m f:Nat) (l':List UInt8),uv= .int .u64 m/\m<128^f*128/\Hid (l++zg m0=l'++zce (f+1) m)/\f<=9/\l'.length<=l.length+9-f/\Hid (WrAt B r l' wr)/\Below B w wr/\Hid (Stays w wr)) (fun uv _=>(intOf uv).toNat)
 case atStart=>exact⟨m0,9,l,by go_num,by omega,HT,zzL _,by omega,zzH h,zzR _ _,zzH (Stays.refl _)⟩
 case round=>
  obtain⟨m,f,l',rfl,hm,HV,hf,hll,HW,hB,HST⟩:=hrel;rename World=>wr
  obtain⟨hBr,hBw,bv,hbk,hown,hne⟩:=HW.out;have c0:wr.cell? ⟨r,0,none⟩=some bv:=by rw [zzq2 _ _ _ _ _ _ hbk];rfl
  have f0:wr.frozen? ⟨r,0,none⟩=false:=Lib.frozen_of_heap hbk 0;have hrl:=zc hbk;by_cases hbig:128<=m
  ·have hf0:f≠0:=fun e=>by subst e;simp at hm;omega
   obtain⟨f',rfl⟩:=Nat.exists_eq_succ_of_ne_zero hf0;have hor:=zr7 m
   have HV2:Hid (l++zg m0=(l'++ [UInt8.ofNat (m%128+128)])++zce (f'+1) (m/128)):=zzH (by
    rw [HV.out];conv=>lhs;rw [zce,if_neg (by omega)]
    simp)
   generalize UInt8.ofNat (m%128+128)=x at *;go_wp2_with (at_builtin;refine wpList_append_own_at _ rfl (.tmp 15) (.tmp 19) 74 rfl B 5 i0 (.int .u8 0) 1 1 Tryz.underlying74 hi hz0 hz1 hz2 rfl (by decide) bv l'.length (zy l') rfl (hown.alloc _) ⟨wr.heap.size,0,none⟩ 1 1 [.int .u8 (x.toNat:Int)] rfl rfl (cell_one_new _ _ _) (ints_oneCell .u8 [(x.toNat:Int)]) (by unfold maxLen;omega) (by omega) (by simp;omega) ?_);intro v' w1 hown' hgrow hnil hloc
   have hbk1:w1.heap[r]?=some (.cells #[bv] 76 (0,0)):=by
    exact zz59
   have k0:w1.cell? ⟨r,0,none⟩=some bv:=by rw [zzq2 _ _ _ _ _ _ hbk1];rfl
   have k1:w1.frozen? ⟨r,0,none⟩=false:=Lib.frozen_of_heap hbk1 0;have hB1:Below B w w1:=(hB.alloc hBw _).grown hgrow (by simp;omega) (fun k hk=>(hown.lt k hk).1)
   have hne':v'.ownBlock≠some r:=by
    exact zz60
   have HW1:Hid (WrAt B r (l'++ [x]) (w1.setCell ⟨r,0,none⟩ v')):=zzH (zkx hBr (zzY hBw (by have:=hgrow.size;simp at this;omega)) hbk1 hown' hne');have HST1:Hid (Stays w (w1.setCell ⟨r,0,none⟩ v')):=zzH (((HST.out.alloc _).grown (hown.alloc _) hgrow).store hbk1 v');obtain⟨ao',cap',rfl⟩:=zes hown';clear hown hbk hgrow hown' hbk1 HW;go_wp2_with fail;go_roundw
   case rel=>exact⟨m/128,f',l'++ [x],by go_num,by rw [Nat.pow_succ]at hm;omega,HV2,by omega,by rw [zzq1];simp;omega,HW1,hB1.setCell (p:=⟨r,0,none⟩) hBr _,HST1⟩
   case measure=>simp [intOf];omega
  ·have hby:Hid ((m:Int)=((UInt8.ofNat m).toNat:Int)):=zzH (by rw [UInt8.toNat_ofNat'];omega)
   have HV2:Hid (l++zg m0=l'++ [UInt8.ofNat m]):=zzH (by rw [HV.out,zce,if_pos (by omega)]);generalize UInt8.ofNat m=x at *;go_wp2_with (at_builtin;refine wpList_append_own_at _ rfl (.tmp 27) (.tmp 30) 74 rfl B 5 i0 (.int .u8 0) 1 1 Tryz.underlying74 hi hz0 hz1 hz2 rfl (by decide) bv l'.length (zy l') rfl (hown.alloc _) ⟨wr.heap.size,0,none⟩ 1 1 [.int .u8 (m:Int)] rfl rfl (cell_one_new _ _ _) (ints_oneCell .u8 [(m:Int)]) (by unfold maxLen;omega) (by omega) (by simp;omega) ?_);intro v' w1 hown' hgrow hnil hloc;rw [hby.out]at hown'
   have hbk1:w1.heap[r]?=some (.cells #[bv] 76 (0,0)):=by
    exact zz59
   have k0:w1.cell? ⟨r,0,none⟩=some bv:=by rw [zzq2 _ _ _ _ _ _ hbk1];rfl
   have k1:w1.frozen? ⟨r,0,none⟩=false:=Lib.frozen_of_heap hbk1 0;have hB1:Below B w w1:=(hB.alloc hBw _).grown hgrow (by simp;omega) (fun k hk=>(hown.lt k hk).1)
   have hne':v'.ownBlock≠some r:=by
    exact zz60
   have HW1:Hid (WrAt B r (l'++ [x]) (w1.setCell ⟨r,0,none⟩ v')):=zzH (zkx hBr (zzY hBw (by have:=hgrow.size;simp at this;omega)) hbk1 hown' hne');have HST1:Hid (Stays w (w1.setCell ⟨r,0,none⟩ v')):=zzH (((HST.out.alloc _).grown (hown.alloc _) hgrow).store hbk1 v');obtain⟨ao',cap',rfl⟩:=zes hown';clear hown hbk hgrow hown' hbk1 HW;go_wp2_with fail;go_end0;exact⟨rfl,by rw [HV2.out];exact HW1.out,hB1.setCell (p:=⟨r,0,none⟩) hBr _,HST1.out⟩
theorem zih {w:World} {B:Nat} {e t:TypeId} {size:Nat} {v:Value} {n:Nat} {xs:List Value} {r:Nat} {cs:Array Value} {fr:Nat × Nat} (h:w.ownsRow B e size v n xs) (hb:w.heap[r]?=some (.cells cs t fr)) (hne:t≠e):v.ownBlock≠some r:=by
 intro hv;obtain⟨c,fz,hg⟩:=Lib.ownsRow_kind h r hv;rw [hb]at hg;injection hg with hg;injection hg with _ h2 _;exact hne h2
theorem WrAt.next {B r:Nat} {l:List UInt8} {w w':World} (h:WrAt B r l w) (hb:Below w.heap.size w w'):WrAt B r l w':=by
 obtain⟨h1,h2,bv,h3,h4,h5⟩:=h;exact⟨h1,zzY h2 hb.size,bv,(hb.block r (zc h3)).trans h3,h4.kept (row:=none) ⟨hb.os,hb.tape,hb.output,hb.size,fun k hk _=>hb.block k hk⟩ (by cases hv:bv.ownBlock<;>simp),h5⟩
def zJ (s:ByteArray):List UInt8:=zg s.size++s.data.toList
theorem zE (n:Nat):(zg n).length<=10:=zi6 10 n
theorem zm7 {B r:Nat} {l k:List UInt8} {w:World} {bv v':Value} (hBr:B<=r) (hBw:B<=w.heap.size) (hb:w.heap[r]?=some (.cells #[bv] 76 (0,0))) (ho:w.ownsRow B 5 1 v' (l.length+k.length) (zy l++zy k)) (hne:v'.ownBlock≠some r):
  WrAt B r (l++k) (w.setCell ⟨r,0,none⟩ v'):=by
 refine⟨hBr,by simpa [World.setCell] using hBw,v',?_,?_,hne⟩
 ·simp [World.setCell,hb,Array.getElem?_modify]
 ·rw [zeJ,zzq1]
  exact zz58
theorem zgc (B r:Nat) (l:List UInt8) (s:ByteArray) (w:World) (h:WrAt B r l w) (hs:s.size<=70368744177664) (hl:l.length<=70368744170000):
  Calls Tryz.prog 26 #[.pointer (some ⟨r,0,none⟩),.string s] w fun e w'=>e= .returned (.tuple #[])/\WrAt B r (l++zJ s) w'/\Below B w w'/\Stays w w':=by
 obtain⟨i0,hi,hz0,hz1,hz2⟩:=info_parts ze2;have HL:=zzH (zE s.size);go_in;go_wp2_with (go_at_call 27;refine(zbD B r l (s.size:Int) _ h (by omega) (by omega) (by omega)).mono ?_);rintro e w1 ⟨rfl,h1,hb1,hst1⟩;rw [zzq11]at h1;obtain⟨hBr,hBw,bv,hbk,hown,hne⟩:=h1;have c0:w1.cell? ⟨r,0,none⟩=some bv:=by rw [zzq2 _ _ _ _ _ _ hbk];rfl
 have f0:w1.frozen? ⟨r,0,none⟩=false:=Lib.frozen_of_heap hbk 0;have hrl:=zc hbk;have hll:(l++zg s.size).length<=70368744177664:=by rw [zzq1];have:=HL.out;omega
 go_wp2_with (at_builtin;refine Lib.wpList_append_own_string _ rfl (.tmp 12) (.tmp 13) 74 9 rfl B 5 i0 Tryz.underlying74 Tryz.underlying9 hi hz0 hz1 hz2 bv (l++zg s.size).length (zy (l++zg s.size)) rfl hown s rfl (by unfold maxLen;omega) (by omega) hBw ?_);intro v' w2 hown' hgrow hnil
 have hbk1:w2.heap[r]?=some (.cells #[bv] 76 (0,0)):=by
  rw [hgrow.block r hrl (fun e=>hne e.symm)];exact hbk
 have k0:w2.cell? ⟨r,0,none⟩=some bv:=by rw [zzq2 _ _ _ _ _ _ hbk1];rfl
 have k1:w2.frozen? ⟨r,0,none⟩=false:=Lib.frozen_of_heap hbk1 0;have hB1:Below B w w2:=hb1.grown hgrow hBw (fun k hk=>(hown.lt k hk).1);have hne':v'.ownBlock≠some r:=zih hown' hbk1 (by decide)
 have HW1:Hid (WrAt B r (l++zJ s) (w2.setCell ⟨r,0,none⟩ v')):=zzH (by
  have ho2:w2.ownsRow B 5 1 v' ((l++zg s.size).length+s.data.toList.length) (zy (l++zg s.size)++zy s.data.toList):=by rw [zzq1];exact hown'
  have:=zm7 hBr (zzY hBw hgrow.size) hbk1 ho2 hne';unfold zJ;rwa [zzq4]at this)
 have HST1:Hid (Stays w (w2.setCell ⟨r,0,none⟩ v')):=zzH ((hst1.grown hown hgrow).store hbk1 v');clear hst1;obtain⟨ao',cap',rfl⟩:=zes hown';clear hown hbk hgrow hown' hbk1;go_wp2_with fail;go_end0;exact⟨rfl,HW1.out,hB1.setCell (p:=⟨r,0,none⟩) hBr _,HST1.out⟩
def zdB (b:Bool):List UInt8:=zg (if b then 1 else 0)
theorem zjf (B r:Nat) (l:List UInt8) (b:Bool) (w:World) (h:WrAt B r l w) (hl:l.length<=70368744170000):
  Calls Tryz.prog 29 #[.pointer (some ⟨r,0,none⟩),.bool b] w fun e w'=>e= .returned (.tuple #[])/\WrAt B r (l++zdB b) w'/\Below B w w'/\Stays w w':=by
 cases b
 ·go_in
  go_wp2_with (go_at_call 27;refine(zbD B r l 0 _ h (by omega) (by omega) (by omega)).mono ?_);rintro e w1 ⟨rfl,h1,hb1,hst1⟩;go_wp2_with fail;go_end0;exact⟨rfl,h1,hb1,hst1⟩
 ·go_in
  go_wp2_with (go_at_call 27;refine(zbD B r l 1 _ h (by omega) (by omega) (by omega)).mono ?_);rintro e w1 ⟨rfl,h1,hb1,hst1⟩;go_wp2_with fail;go_end0;exact⟨rfl,h1,hb1,hst1⟩
def zb0 (a:RArg):List UInt8:=zg (4*a.n+a.kind).toNat
theorem zgF (B r:Nat) (l:List UInt8) (a:RArg) (w:World) (h:WrAt B r l w) (hl:l.length<=70368744170000) (h0:0<=a.n) (h1:a.n<=1000000000000) (h2:0<=a.kind) (h3:a.kind<=3):
  Calls Tryz.prog 61 #[.pointer (some ⟨r,0,none⟩),.agg #[.int .i64 a.kind,.int .i64 a.n]] w fun e w'=>e= .returned (.tuple #[])/\WrAt B r (l++zb0 a) w'/\Below B w w'/\Stays w w':=by
 obtain⟨ak,an⟩:=a;simp only at *;have HA:Hid (zb0 ⟨ak,an⟩=zg (4*an+ak).toNat):=zzH rfl;have HB:=zzH h.2.1;go_in;have hA: ∀(o:Obj),WrAt B r l (w.alloc o):=fun o=>h.next ((zzR _ _).alloc (zzL _) _)
 go_wp2_with (go_at_call 27;refine(zbD B r l (4*an+ak) _ (hA _) (by omega) (by omega) (by omega)).mono ?_);rintro e w1 ⟨rfl,h1,hb1,hst1⟩;go_wp2_with fail;go_end0;exact⟨rfl,by rw [HA.out];exact h1,((zzR _ _).alloc HB.out _).trans hb1,((Stays.refl w).alloc _).trans hst1⟩
def zda (l:List RArg):List UInt8:=l.flatMap zb0
def zgt (c:RCase):List UInt8:=zg c.lit.toNat++zg c.to.toNat
def zbm (l:List RCase):List UInt8:=l.flatMap zgt
def ziC (g:RSeg):List UInt8:=zg g.type.toNat++(zb0 g.val++(zb0 g.size++zdB g.little))
def zbj (l:List RSeg):List UInt8:=l.flatMap ziC
def opt (b:Bool) (l:List UInt8):List UInt8:=if b=true then l else []
def zeo (h:Nat) (x:RIns):List UInt8:=
 zg x.op.toNat++(opt (zm h 1) (zb0 x.dst)++(opt (zm h 2) (zg x.src.length++zda x.src)++(opt (zm h 4) (zg x.n.toNat)++(opt (zm h 8) (zJ x.name) ++
  (opt (zm h 16) (zg x.cases.length++zbm x.cases)++(opt (zm h 32) (zg x.segs.length++zbj x.segs)++(opt (zm h 64) (zg x.to.toNat)++opt (zm h 128) (zg x.live.toNat))))))))
structure WArg (a:RArg):Prop where
 n0:0<=a.n
 n1:a.n<=1000000
 k0:0<=a.kind
 k1:a.kind<=3
structure WIns (h:Nat) (x:RIns):Prop where
 op0:0<=x.op
 op1:x.op<=1000
 dst:zm h 1=true->WArg x.dst
 src: ∀a∈x.src,WArg a
 srcLen:x.src.length<=1000
 n0:0<=x.n
 n1:x.n<=1000000
 name:x.name.size<=1000
 cases: ∀c∈x.cases,0<=c.lit/\c.lit<=1000000/\0<=c.to/\c.to<=1000000
 casesLen:x.cases.length<=1000
 segs: ∀g∈x.segs,0<=g.type/\g.type<=1000/\WArg g.val/\WArg g.size
 segsLen:x.segs.length<=1000
 to0:0<=x.to
 to1:x.to<=1000000
 live0:0<=x.live
 live1:x.live<=1000000
theorem zc4 (a:RArg):(zb0 a).length<=10:=zE _
theorem zfl (b:Bool):(zdB b).length<=10:=zE _
theorem znY (c:RCase):(zgt c).length<=20:=by have:=zE c.lit.toNat;have:=zE c.to.toNat;unfold zgt;simp;omega
theorem zpz (g:RSeg):(ziC g).length<=40:=by
 have:=zE g.type.toNat;have:=zc4 g.val;have:=zc4 g.size;have:=zfl g.little;unfold ziC;simp;omega
theorem zgn {α:Type} (f:α->List UInt8) (m:Nat): ∀(l:List α),(∀a∈l,(f a).length<=m)->(l.flatMap f).length<=m*l.length
 |[],_=>by simp
 |a::l,h=>by
  have h1:=h a List.mem_cons_self;have h2:=zgn f m l (fun b hb=>h b (List.mem_cons_of_mem _ hb));simp only [List.flatMap_cons,zzq1,zzq13];rw [Nat.mul_add];omega
theorem zpK (l:List RArg):(zda l).length<=10*l.length:=zgn _ _ _ fun a _=>zc4 a
theorem zmr (l:List RCase):(zbm l).length<=20*l.length:=zgn _ _ _ fun a _=>znY a
theorem zoA (l:List RSeg):(zbj l).length<=40*l.length:=zgn _ _ _ fun a _=>zpz a
theorem zeL (b:Bool) (l:List UInt8):(opt b l).length<=l.length:=by unfold opt;split<;>simp
theorem zdo (s:ByteArray):(zJ s).length<=10+s.size:=by
 have:=zE s.size;unfold zJ;simp only [zzq1,Array.length_toList];show _+s.size<=_;omega
theorem zin {h:Nat} {x:RIns} (w:WIns h x):(zeo h x).length<=100000:=by
 have a1:=zE x.op.toNat;have a2:=zzY (zeL (zm h 1) (zb0 x.dst)) (zc4 _);have a3:=zeL (zm h 2) (zg x.src.length++zda x.src);have b3:=zE x.src.length;have c3:=zpK x.src;have d3:=w.srcLen;have a4:=zzY (zeL (zm h 4) (zg x.n.toNat)) (zE _);have a5:=zzY (zeL (zm h 8) (zJ x.name)) (zdo _);have b5:=w.name;have a6:=zeL (zm h 16) (zg x.cases.length++zbm x.cases);have b6:=zE x.cases.length;have c6:=zmr x.cases;have d6:=w.casesLen;have a7:=zeL (zm h 32) (zg x.segs.length++zbj x.segs);have b7:=zE x.segs.length;have c7:=zoA x.segs;have d7:=w.segsLen;have a8:=zzY (zeL (zm h 64) (zg x.to.toNat)) (zE _);have a9:=zzY (zeL (zm h 128) (zg x.live.toNat)) (zE _);rw [zzq1]at a3 a6 a7;unfold zeo;simp only [zzq1];omega
def zcI (f:RFunc):List UInt8:=zJ f.name++(zg f.arity.toNat++(zdB f.pub++zg f.entry.toNat))
def zcB (f:RFun):List UInt8:=zg f.arity.toNat++(zg f.free.toNat++zg f.entry.toNat)
def Tw (ws:List (List UInt8)):List UInt8:=32::ws.flatMap fun w=>w++ [32]
theorem zqQ (w:List UInt8) (ws:List (List UInt8)):Tw (w::ws)=32::(w++Tw ws):=by
 unfold Tw;rw [List.flatMap_cons,zzq4];rfl
theorem zlK: ∀{x w b c:List UInt8},32∉x->32∉w->x++32::b=w++32::c->x=w
 |[],[],_,_,_,_,_=>rfl
 |[],y::w,_,_,_,hw,h=>by
  injection h with h1 _;subst h1;exact absurd List.mem_cons_self hw
 |y::x,[],_,_,hx,_,h=>by
  injection h with h1 _;subst h1;exact absurd List.mem_cons_self hx
 |y::x,z::w,b,c,hx,hw,h=>by
  injection h with h1 h2;subst h1;rw [zlK (fun h=>hx (List.mem_cons_of_mem _ h)) (fun h=>hw (List.mem_cons_of_mem _ h)) h2]
theorem zh7 {x:List UInt8} (hx:32∉x): ∀(ws:List (List UInt8)),(∀w∈ws,32∉w)->((32::(x++ [32])) <:+:Tw ws↔x∈ws)
 |[],_=>by
  constructor
  ·rintro⟨a,b,h⟩
   have:=congrArg List.length h;simp [Tw]at this;omega
  ·intro h;cases h
 |w::ws,hws=>by
  have ih:=zh7 hx ws (fun v hv=>hws v (List.mem_cons_of_mem _ hv));have hw:=hws w List.mem_cons_self;rw [zqQ];constructor
  ·rintro⟨a,b,h⟩
   cases a with
   |nil=>
    have h2:x++32::b=w++32::ws.flatMap (fun w=>w++ [32]):=by
     simp only [List.nil_append,List.cons_append,zzq4,List.cons.injEq,true_and]at h;exact h
    rw [zlK hx hw h2];exact List.mem_cons_self
   |cons y a=>
    have h2:a++(32::(x++ [32])++b)=w++Tw ws:=by
     rw [List.cons_append,List.cons_append]at h;injection h with _ h;rw [<-h,zzq4]
    rcases List.append_eq_append_iff.1 h2 with⟨c,h3,h4⟩|⟨c,h3,h4⟩
    ·cases c with
     |nil=>
      rw [List.append_nil]at h3;refine List.mem_cons_of_mem _ (ih.1 ⟨[],b,?_⟩);rw [List.nil_append,h4];rfl
     |cons z c=>
      rw [List.cons_append,List.cons_append]at h4;injection h4 with h5 _;subst h5;exact absurd (by rw [h3];exact List.mem_append_right _ List.mem_cons_self) hw
    ·exact List.mem_cons_of_mem _ (ih.1 ⟨c,b,by rw [h4,zzq4]⟩)
  ·intro h
   rcases List.mem_cons.1 h with rfl|h
   ·exact⟨[],ws.flatMap (fun w=>w++ [32]),by simp [Tw]⟩
   ·obtain⟨a,b,e⟩:=ih.2 h
    exact⟨32::(w++a),b,by rw [<-e];simp⟩
def zd2 (s p:List UInt8):Bool:=decide (∃i,i<s.length+1/\i+p.length<=s.length/\(s.drop i).take p.length=p)
theorem zkr (s p:List UInt8):zd2 s p=decide (p <:+:s):=by
 unfold zd2;rw [decide_eq_decide];constructor
 ·rintro⟨i,_,_,h⟩
  exact⟨s.take i,(s.drop i).drop p.length,by
    rw [<-h,List.length_take];rw [zzq4];conv=>rhs;rw [<-List.take_append_drop i s]
    congr 1
    have:min p.length (s.drop i).length=p.length:=by
     have:=congrArg List.length h;rw [List.length_take]at this;exact this
    rw [this];exact List.take_append_drop _ _⟩
 ·rintro⟨a,b,rfl⟩
  refine⟨a.length,by simp only [zzq1];omega,by simp only [zzq1];omega,?_⟩;rw [zzq4,List.drop_left,List.take_left]
def zdS (c:Nat):List (List UInt8):=if c=1 then words1 else if c=2 then words2 else if c=3 then words3 else if c=4 then words4 else []
def ziq (c:Nat):List UInt8:=Tw (zdS c)
def zcg (s:ByteArray) (n:Nat):List UInt8:=s.data.toList++ [47,UInt8.ofNat (48+n)]
def zdh (s:ByteArray) (n:Int):Int:=
 if zB s=true/\0<=n/\n<=9 then
  if zcg s n.toNat∈words1 then 1 else if zcg s n.toNat∈words2 then 2 else if zcg s n.toNat∈words3 then 3 else if zcg s n.toNat∈words4 then 4 else 0
 else 0
theorem zfk {c:Int}: ∀(ws:List (List UInt8)) (t:List UInt8->Int) (k:List UInt8),zcM c ws t k=if k∈ws then c else t k
 |[],t,k=>by rw [if_neg (by simp)];rfl
 |x::ws,t,k=>by
  show zcM c ws (zfi t x c) k=_;rw [zfk ws _ k];by_cases h:k∈ws
  ·rw [if_pos h,if_pos (List.mem_cons_of_mem _ h)]
  ·rw [if_neg h]
   unfold zfi;by_cases e:k=x
   ·rw [if_pos e,if_pos (by rw [e];exact List.mem_cons_self)]
   ·rw [if_neg e,if_neg (fun hm=>(List.mem_cons.1 hm).elim e h)]
theorem zk9:((words1.all fun x=>!(words2.elem x)&& !(words3.elem x)&& !(words4.elem x))&&(words2.all fun x=>!(words3.elem x)&& !(words4.elem x))&&(words3.all fun x=>!(words4.elem x)))=true:=by decide +kernel
def zjB (w:List UInt8):Bool:=
 match w.reverse with
 |d::47::r=>decide (48<=d.toNat/\d.toNat<=57)&&(decide (47∉r)&&zB ⟨r.reverse.toArray⟩)
 |_=>false
theorem zlZ:(words1++(words2++(words3++words4))).all zjB=true:=by decide +kernel
theorem zjw:(words1++(words2++(words3++words4))).all (fun w=>decide (32∉w))=true:=by decide +kernel
theorem zp3 {w:List UInt8} (h:zjB w=true): ∃(r:List UInt8) (d:UInt8),w=r++ [47,d]/\48<=d.toNat/\d.toNat<=57/\47∉r/\zB ⟨r.toArray⟩=true:=by
 unfold zjB at h;split at h
 ·rename_i d r e
  rw [Bool.and_eq_true,Bool.and_eq_true,decide_eq_true_eq,decide_eq_true_eq]at h;have e2:=congrArg List.reverse e;rw [List.reverse_reverse]at e2;refine⟨r.reverse,d,by rw [e2];simp,h.1.1,h.1.2,by simpa using h.2.1,h.2.2⟩
 ·cases h
theorem zkg: ∀{x w b c:List UInt8},47∉x->47∉w->x++47::b=w++47::c->x=w/\b=c
 |[],[],_,_,_,_,h=>by injection h with _ h;exact⟨rfl,h⟩
 |[],y::w,_,_,_,hw,h=>by
  injection h with h1 _;subst h1;exact absurd List.mem_cons_self hw
 |y::x,[],_,_,hx,_,h=>by
  injection h with h1 _;subst h1;exact absurd List.mem_cons_self hx
 |y::x,z::w,b,c,hx,hw,h=>by
  injection h with h1 h2;subst h1;obtain⟨e1,e2⟩:=zkg (fun h=>hx (List.mem_cons_of_mem _ h)) (fun h=>hw (List.mem_cons_of_mem _ h)) h2;exact⟨by rw [e1],e2⟩
theorem zfv: ∀(l:List UInt8) (c:UInt8),(0<=Lib.indexByte l c)↔c∈l
 |[],c=>by simp [Lib.indexByte]
 |b::l,c=>by
  have ih:=zfv l c;have hg:=Lib.indexByte_ge l c;unfold Lib.indexByte;by_cases e:(b==c)=true
  ·rw [if_pos e]
   simp [eq_of_beq e]
  ·rw [if_neg e]
   have hne:b≠c:=fun h=>e (by rw [h];exact beq_self_eq_true c)
   rw [List.mem_cons,<-ih];by_cases z:(Lib.indexByte l c== -1)=true
   ·rw [if_pos z]
    have:=eq_of_beq z;constructor
    ·intro h;omega
    ·rintro(h|h)
     ·exact absurd h.symm hne
     ·omega
   ·rw [if_neg z]
    have:Lib.indexByte l c≠ -1:=fun h=>z (by rw [h];rfl)
    constructor
    ·intro h;exact .inr (by omega)
    ·intro _;omega
theorem zi1 {n:Int} (h0:0<=n) (h9:n<=9):txt n= [UInt8.ofNat (48+n.toNat)]:=by
 unfold txt;rw [if_neg (by omega),zfo (by omega)];unfold dgt;rw [show n.natAbs%10=n.toNat by omega]
theorem zrQ {m:Nat} (h: ¬m<10):2<=(dig m).length:=by
 rw [zhe h]
 have:1<=(dig (m/10)).length:=by
  by_cases h2:m/10<10
  ·rw [zfo h2];simp
  ·rw [zhe h2];simp
 simp;omega
theorem zqT {n:Int} (hn:0<=n) {d:UInt8} (h:txt n= [d]):n<=9/\d=UInt8.ofNat (48+n.toNat):=by
 by_cases h9:n<=9
 ·rw [zi1 hn h9]at h;injection h with h _;exact⟨h9,h.symm⟩
 ·have:=zrQ (m:=n.natAbs) (by omega)
  unfold txt at h;rw [if_neg (by omega)]at h;rw [h]at this;simp at this
theorem zha {s:ByteArray} (h:zB s=true):47∉s.data.toList/\32∉s.data.toList:=by
 unfold zB at h;rw [Bool.and_eq_true,decide_eq_true_eq]at h
 have: ∀c∈s.data.toList,c≠47/\c≠32:=fun c hc=>by
  obtain⟨j,hj,rfl⟩:=List.getElem_of_mem hc;have hj2:j<s.size:=by simpa using hj
  have h1:=h.2 j hj2;have e:s[j].toNat=s.data.toList[j].toNat:=by rw [Array.getElem_toList];rfl
  rw [e]at h1;constructor
  ·intro h2;rw [h2]at h1;unfold zbo at h1;revert h1;simp
  ·intro h2;rw [h2]at h1;unfold zbo at h1;revert h1;simp
 exact⟨fun h=>(this _ h).1 rfl,fun h=>(this _ h).2 rfl⟩
theorem zpQ {w:List UInt8} (h:w∈words1∨w∈words2∨w∈words3∨w∈words4):zjB w=true:=by
 refine List.all_eq_true.1 zlZ w ?_;rw [List.mem_append,List.mem_append,List.mem_append];exact h
theorem zdT (s:ByteArray) (n:Int):zbJ s n=zdh s n:=by
 have hap:=zk9;simp only [Bool.and_eq_true,List.all_eq_true,Bool.not_eq_true']at hap;obtain⟨⟨hap1,hap2⟩,hap3⟩:=hap;have el: ∀{x:List UInt8} {l:List (List UInt8)},l.elem x=false->x∉l:=fun h hm=>by rw [List.elem_eq_true_of_mem hm]at h;cases h
 unfold zbJ;by_cases hneg:n<0∨0<=Lib.indexByte s.data.toList 47
 ·rw [if_pos hneg]
  unfold zdh;rw [if_neg];rintro⟨h1,h2,h3⟩;rcases hneg with h|h
  ·omega
  ·exact(zha h1).1 ((zfv _ _).1 h)
 ·rw [if_neg hneg]
  have hn0:0<=n:=by omega
  have hns:47∉s.data.toList:=fun h=>hneg (.inr ((zfv _ _).2 h))
  unfold zfq;rw [zfk,zfk,zfk,zfk];by_cases hm:(s.data.toList++ [47]++txt n)∈words1∨(s.data.toList++ [47]++txt n)∈words2∨(s.data.toList++ [47]++txt n)∈words3∨(s.data.toList++ [47]++txt n)∈words4
  ·obtain⟨r,d,e,hd1,hd2,hr,hname⟩:=zp3 (zpQ hm)
   have e2:s.data.toList++47::txt n=r++47:: [d]:=by rw [<-e];simp
   obtain⟨e3,e4⟩:=zkg hns hr e2;obtain⟨h9,hd⟩:=zqT hn0 e4
   have hv:zB s=true:=by
    have:s=⟨r.toArray⟩:=by rw [<-e3]
    rw [this];exact hname
   have ew:s.data.toList++ [47]++txt n=zcg s n.toNat:=by unfold zcg;rw [e4,hd];simp
   rw [ew]at hm ⊢
   have ecl:zdh s n=if zcg s n.toNat∈words1 then 1 else if zcg s n.toNat∈words2 then 2 else if zcg s n.toNat∈words3 then 3 else if zcg s n.toNat∈words4 then 4 else 0:=by
    unfold zdh;rw [if_pos ⟨hv,hn0,h9⟩]
   rw [ecl];clear ecl;generalize zcg s n.toNat=x at *;by_cases m1:x∈words1
   ·obtain⟨⟨a,b⟩,c⟩:=hap1 x m1
    have a':=el a;have b':=el b;have c':=el c;simp only [m1,a',b',c',if_true,if_false]
   ·by_cases m2:x∈words2
    ·obtain⟨a,b⟩:=hap2 x m2
     have a':=el a;have b':=el b;simp only [m1,m2,a',b',if_true,if_false]
    ·by_cases m3:x∈words3
     ·have a':=el (hap3 x m3)
      simp only [m1,m2,m3,a',if_true,if_false]
     ·by_cases m4:x∈words4
      ·simp only [m1,m2,m3,m4,if_true,if_false]
      ·rcases hm with h|h|h|h<;>contradiction
  ·have h1: ∀{c:Prop} [Decidable c] {a b:Int},¬c->(if c then a else b)=b:=fun h=>if_neg h
   rw [if_neg (fun h=>hm (.inr (.inr (.inr h)))),if_neg (fun h=>hm (.inr (.inr (.inl h)))),if_neg (fun h=>hm (.inr (.inl h))),if_neg (fun h=>hm (.inl h))];unfold zdh;by_cases hc:zB s=true/\0<=n/\n<=9
   ·rw [if_pos hc]
    have ew:s.data.toList++ [47]++txt n=zcg s n.toNat:=by unfold zcg;rw [zi1 hc.2.1 hc.2.2];simp
    rw [ew]at hm;rw [if_neg (fun h=>hm (.inl h)),if_neg (fun h=>hm (.inr (.inl h))),if_neg (fun h=>hm (.inr (.inr (.inl h)))),if_neg (fun h=>hm (.inr (.inr (.inr h))))]
   ·rw [if_neg hc]
theorem zmu {s:ByteArray} (hs:zB s=true) {n:Nat} (hn:n<=9) {c:Nat} (hc:1<=c/\c<=4):zd2 (ziq c) (32::(zcg s n++ [32]))=decide (zcg s n∈zdS c):=by
 rw [zkr,decide_eq_decide];refine zh7 ?_ _ (fun w hw=>?_)
 ·unfold zcg
  intro h;rw [List.mem_append]at h;rcases h with h|h
  ·exact(zha hs).2 h
  ·have: ∀k,k<=9->(32:UInt8)∉ [47,UInt8.ofNat (48+k)]:=by decide
   exact this n hn h
 ·refine of_decide_eq_true (List.all_eq_true.1 zjw w ?_)
  rw [List.mem_append,List.mem_append,List.mem_append];unfold zdS at hw;rcases(show c=1∨c=2∨c=3∨c=4 by omega)with rfl|rfl|rfl|rfl
  ·exact .inl hw
  ·exact .inr (.inl hw)
  ·exact .inr (.inr (.inl hw))
  ·exact .inr (.inr (.inr hw))
theorem zmg:(Rows.laid_stagehand_code_rows:DataW Unit)= .agg (rowT.map fun r=>.agg ([r.1,r.2.1,r.2.2].map fun z=>.lit (.int .i64 z))):=rfl
theorem rowsName:Tryz.prog.globalNamed "stagehand/code.rows" =some 0:=by kernel_rfl
theorem rowsType:(Tryz.prog.globals[0]?).map (·.type)=some 123:=by kernel_rfl
theorem zku:Tryz.prog.cellsOf 87=3:=by kernel_rfl
theorem zso:Tryz.prog.cellsOf 3=1:=by kernel_rfl
theorem zjt {W:World} (h:Lib.VarReads Tryz.prog W "stagehand/code.rows" Rows.laid_stagehand_code_rows):RowsAt W:=by
 obtain⟨g,t,cs,fuel,p,hg,ht,hv,hd⟩:=h;obtain rfl:=Option.some.inj (rowsName.symm.trans hg);obtain rfl:=Option.some.inj (rowsType.symm.trans ht);rw [zmg]at hd
 have hlt:0<W.heap.size:=by
  unfold World.var? at hv;rw [hg]at hv;simp only [zzq0]at hv;split at hv
  ·rename_i h;exact(Array.getElem?_eq_some_iff.1 h).1
  ·cases hv
 refine⟨hlt,fun k hk=>?_⟩;obtain⟨f',d,q,h1,h2⟩:=Lib.array_elem Tryz.underlying123 hd k hk;rw [List.getElem?_map,zzq8 (by exact hk)]at h1;obtain rfl:=Option.some.inj h1
 have h3:=Lib.ints_of_struct Tryz.underlying87 (fun i f hf=>by
  have hi:=(Array.getElem?_eq_some_iff.1 hf).1;have hi:i<3:=hi;rcases(show i=0∨i=1∨i=2 by omega)with rfl|rfl|rfl
  all_goals
   obtain rfl:=Option.some.inj hf;exact⟨Tryz.underlying3,rfl,zso⟩) zku h2
 rw [zku]at h3
 have hc: ∀i,i<3->cs[k*3+i]?=([(rowT[k]'hk).1,(rowT[k]'hk).2.1,(rowT[k]'hk).2.2].map fun z=>Value.int .i64 z)[i]?:=fun i hi=>by
  have h4:((cs.toList.drop (k*3)).take 3)[i]?=([(rowT[k]'hk).1,(rowT[k]'hk).2.1,(rowT[k]'hk).2.2].map fun z=>Value.int .i64 z)[i]?:=congrArg (fun l=>l[i]?) h3
  rw [List.getElem?_take_of_lt hi,List.getElem?_drop,Array.getElem?_toList]at h4;exact h4
 have hcell:=World.var?_cell hg hv;exact⟨(hcell (k*3)).trans (hc 0 (by decide)),(hcell (k*3+1)).trans (hc 1 (by decide)),(hcell (k*3+2)).trans (hc 2 (by decide))⟩
theorem znu:Tryz.prog.globalNamed "strings.asciiSpace" =some 1:=by kernel_rfl
theorem znE:(Tryz.prog.globals[1]?).map (·.type)=some 197:=by kernel_rfl
theorem zmG:Tryz.prog.cellsOf 5=1:=by kernel_rfl
theorem zkL:Tryz.prog.cellsOf 197=256:=by kernel_rfl
theorem zkR:(Rows.laid_strings_asciiSpace:DataW Unit)=Lib.tabData .u8 Lib.asciiSpaceTab:=by kernel_rfl
theorem zrW {W:World} {l:List (String × DataW Unit)} (h:laidMet Tryz.prog l W) (hm:("stagehand/code.rows",Rows.laid_stagehand_code_rows)∈l):RowsAt W:=zjt (Lib.laidMet.reads h hm)
theorem zqa {W:World} {a:String × DataW Unit} {rest:List (String × DataW Unit)} (h:laidMet Tryz.prog (a::("strings.asciiSpace",Rows.laid_strings_asciiSpace)::rest) W):SpaceAt W:=by
 rw [zkR]at h;exact Lib.tabIs_of_head znu znE Tryz.underlying197 Tryz.underlying5 zmG zkL h.tail
noncomputable def zg1 (os:Os):World:=
 let N:=(World.settled Tryz.prog os).heap.size
 let w0:=World.holding Tryz.prog os ⟨#[.cells (Lib.whiteT.map fun(z:Nat)=>Value.int .u16 (z:Int)).toArray 231,.cells #[.slice (some ⟨N,0,none⟩) 7 7,.slice none 0 0,.int .i64 2] 228],#[],[]⟩
 let put (h:Array Obj) (g:Nat) (cs:Array Value):Array Obj:=h.modify g fun
  |.cells _ t frozen=>.cells cs t frozen
  |o=>o
 let h1:=put w0.heap 1 (Lib.asciiSpaceTab.map fun z=>Value.int .u8 z).toArray
 let h2:=put h1 3 #[.pointer (some ⟨N+1,0,none⟩)]
 let h3:=put h2 0 (rowT.flatMap fun r=>[Value.int .i64 r.1,Value.int .i64 r.2.1,Value.int .i64 r.2.2]).toArray
 {w0 with heap:=h3}
end Go.Proofs.YtlaabicdhkebbaaGreatDoor
