/- part 8 -/
import Derived.Lib.SmallJoins
import Derived.Test.YtepjanajflkakaaGreatDoorRows
import Derived.Lib.LaidU8
import Derived.Stop.LaidErr
import Derived.Test.YtepjanajflkakaaGreatDoorUnrAll03
import Derived.Test.YtepjanajflkakaaGreatDoorUnrAll04
import Derived.Test.YtepjanajflkakaaGreatDoorUnrAll05
namespace Go.Proofs.YtepjanajflkakaaGreatDoor
open Go.RowKit
set_option linter.unusedVariables false
set_option linter.unusedSimpArgs false
set_option maxRecDepth 100000
set_option maxHeartbeats 40000000
open Go.RowKit Go.Maps Go.WideMaps
theorem strLaw:Keyed Tryz.prog 9:=string_keyed Tryz.underlying9
theorem zeroInt (w:World):(zeroValue 3).run Tryz.prog w= .ok (.int .i64 0) w:=by kernel_rfl
def tabPut (t:List UInt8->Int) (k:List UInt8) (c:Int):List UInt8->Int:=fun x=>if x=k then c else t x
def tabAll (c:Int) (ws:List (List UInt8)) (t:List UInt8->Int):List UInt8->Int:=ws.foldl (fun t k=>tabPut t k c) t
def MapIs (w:World) (M n:Nat) (t:List UInt8->Int):Prop:= ∃D:DataW Unit,w.ownsMap Tryz.prog 9 (plainElem Tryz.prog 3) M n D/\ ∀k:List UInt8,D.atKey (.string k) (.lit (.int .i64 0))= .lit (.int .i64 (t k))
theorem isKey_str (k:List UInt8):WideAt.IsKeyLit (.string k):=by unfold WideAt.IsKeyLit;simp
theorem mapIs_put {D:DataW Unit} {t:List UInt8->Int} (hD:IsMap D) (h: ∀k:List UInt8,D.atKey (.string k) (.lit (.int .i64 0))= .lit (.int .i64 (t k))) (x:List UInt8) (c:Int):
  ∀k:List UInt8,(D.put (.string x) (.lit (.int .i64 c))).atKey (.string k) (.lit (.int .i64 0))= .lit (.int .i64 (tabPut t x c k)):=by
 intro k
 unfold tabPut
 by_cases e:k=x
 ·rw [if_pos e,e,atKey_put_same hD (isKey_str x)]
 ·rw [if_neg e,atKey_put_other (by intro h2;injection h2 with h2;exact e h2)];exact h k
theorem tabAll_step (c:Int) (ws:List (List UInt8)) (t:List UInt8->Int) {k:Nat} (h:k<ws.length):tabAll c (ws.take (k+1)) t=tabPut (tabAll c (ws.take k) t) ws[k] c:=by
 unfold tabAll
 rw [List.take_add_one,List.getElem?_eq_getElem h,List.foldl_append];rfl
theorem add_any (c:Int) (s:ByteArray) (ws:List (List UInt8)) (B C M n:Nat) (t:List UInt8->Int) (w:World) (hws:Lib.fields s.data.toList=ws) (hc0:0<=c) (hc1:c<=10) (hs:s.size<4294967281) (hwl: ∀x∈ws,x.length<=1000) (hwn:ws.length<=1000) (hn:n<=1000000)
  (hascii: ∀(j:Nat) b,s.data.toList[j]?=some b->b.toNat<128) (htab:Lib.TabIs Tryz.prog w "strings.asciiSpace" .u8 Lib.asciiSpaceTab)
  (hB:B<=w.heap.size) (hBC:B<=C) (hBM:B<=M) (hCM:C≠M) (hC:w.heap[C]?=some (.cells #[.map (some M)] 186 (0,0))) (hM:MapIs w M n t):
  Calls Tryz.prog 157 #[.int .i64 c,.string s,.pointer (some ⟨C,0,none⟩)] w fun e w'=>e= .returned (.tuple #[])/\MapIs w' M (n+ws.length) (tabAll c ws t)/\w'.heap[C]?=some (.cells #[.map (some M)] 186 (0,0))/\Below B w w':=by
 have HF:=fun w' h=>Tryz.strings_Fields s w' hs hascii h
 rw [hws]at HF
 have HTab:=Lib.hid htab
 clear htab hws
 have hMl:M<w.heap.size:=by obtain⟨D,h,_⟩:=hM;exact h.lt
 have hCl:=lt_of_row hC
 go_enter Tryz.func157,Tryz.ntmps157
 go_wp2_with (go_at_call 158;refine(HF _ HTab.out).mono ?_;rintro e w1 ⟨rfl,rfl⟩)
 have hWd:=heap_alloc_new w (.cells (ws.map fun l=>Value.string ⟨l.toArray⟩).toArray 9)
 have hC1:=(Below.heap_alloc w (.cells (ws.map fun l=>Value.string ⟨l.toArray⟩).toArray 9) C hCl).trans hC
 have hB1:Below B w (w.alloc (.cells (ws.map fun l=>Value.string ⟨l.toArray⟩).toArray 9)):=(Below.refl _ _).alloc hB _
 have hM1:MapIs (w.alloc (.cells (ws.map fun l=>Value.string ⟨l.toArray⟩).toArray 9)) M n t:=by
  obtain⟨D,h,h2⟩:=hM;exact⟨D,h.alloc _,h2⟩
 generalize hW:w.alloc (.cells (ws.map fun l=>Value.string ⟨l.toArray⟩).toArray 9)=W at *
 generalize hb:w.heap.size=b at *
 go_loopw [10] (fun i wr=> ∃k:Nat,k<=ws.length/\i= .int .i64 k/\MapIs wr M (n+k) (tabAll c (ws.take k) t)/\wr.heap[C]?=some (.cells #[.map (some M)] 186 (0,0))/\wr.heap[b]?=some (.cells (ws.map fun l=>Value.string ⟨l.toArray⟩).toArray 9 (0,0))/\Below B w wr) (fun i _=>ws.length-(intOf i).toNat)
 case atStart=>exact⟨0,Nat.zero_le _,rfl,hM1,hC1,hWd,hB1⟩
 case round=>
  obtain⟨k,hk,rfl,⟨D,hown,hD⟩,hCr,hbr,hBr⟩:=hrel
  rename World=>wr
  by_cases hlt:k<ws.length
  ·have hcw:wr.cell? ⟨b,k,none⟩=some (.string ⟨ws[k].toArray⟩):=by rw [cell_of_row _ _ _ _ _ _ hbr];simp [hlt]
   have hcC:wr.cell? ⟨C,0,none⟩=some (.map (some M)):=by rw [cell_of_row _ _ _ _ _ _ hCr];rfl
   have hkey:keyOf Tryz.prog 9 (.string ⟨ws[k].toArray⟩)=some (.string ws[k]):=by
    have:=hwl _ (List.getElem_mem hlt)
    exact keyOf_string_mk Tryz.underlying9 (by unfold maxLen;simp [ByteArray.size];omega)
   have hDM:=hown.isMap
   have HP:=Lib.hid (mapIs_put hDM hD ws[k] c)
   have HS:=Lib.hid (tabAll_step c ws t hlt)
   have hkl:=hwl _ (List.getElem_mem hlt)
   generalize ws[k]=x at *
   go_wp2_with (first
    |(at_mapUpdate;refine wpList_mapUpdate_own _ rfl _ _ _ 186 rfl 9 3 strLaw Tryz.underlying186 _ M (n+k) _ rfl hown (by unfold maxLen;omega) _ _ _ rfl rfl hkey _ [] (plainElem_int Tryz.underlying3 (WalkArith.wf_i64 (by omega))) ?_)
    |fail)
   intro w1 hown1 hgrow1
   have hM2:MapIs w1 M (n+(k+1)) (tabAll c (ws.take (k+1)) t):=⟨_,hown1,by rw [HS.out];exact HP.out⟩
   have hC2:w1.heap[C]?=some (.cells #[.map (some M)] 186 (0,0)):=(hgrow1.block C (lt_of_row hCr) (fun e=>hCM (Option.some.inj e))).trans hCr
   have hb2:w1.heap[b]?=some (.cells (ws.map fun l=>Value.string ⟨l.toArray⟩).toArray 9 (0,0)):=(hgrow1.block b (lt_of_row hbr) (fun e=>by have:=Option.some.inj e;omega)).trans hbr
   have hB2:Below B w w1:=hBr.grown hgrow1 (by have:=hBr.size;omega) (fun j hj=>by cases hj;exact hBM)
   clear hown1 hgrow1 hown hcw hcC
   go_wp2_with fail
   go_roundw
   case rel=>exact⟨k+1,by omega,by go_num,hM2,hC2,hb2,hB2⟩
   case measure=>simp [intOf];omega
  ·obtain rfl:k=ws.length:=by omega
   have hMF:MapIs wr M (n+ws.length) (tabAll c ws t):=⟨D,hown,by rw [List.take_length]at hD;exact hD⟩
   clear hown
   go_wp2_with fail
   (try simp only [Exit.inBlock,Exit.then])
   go_end0
   exact⟨rfl,hMF,hCr,hBr⟩
open Go.RowKit Go.Maps Go.WideMaps
def words1:List (List UInt8):=[[105,115,95,105,110,116,101,103,101,114,47,49],[105,115,95,97,116,111,109,47,49],[105,115,95,98,111,111,108,101,97,110,47,49],[105,115,95,116,117,112,108,101,47,49],[105,115,95,112,105,100,47,49],[105,115,95,114,101,102,47,49],[105,115,95,108,105,115,116,47,49],[105,115,95,98,105,116,115,47,49],[105,115,95,98,121,116,101,115,47,49],[105,115,95,102,117,110,47,49],[105,115,95,102,117,110,47,50],[101,108,101,109,101,110,116,47,50],[115,105,122,101,47,49],[104,100,47,49],[116,108,47,49],[108,101,110,103,116,104,47,49],[98,105,116,95,115,105,122,101,47,49],[98,121,116,101,95,115,105,122,101,47,49],[97,98,115,47,49],[109,105,110,47,50],[109,97,120,47,50],[115,101,108,102,47,48],[110,111,100,101,47,48],[110,111,100,101,47,49]]
def wordsS1:List UInt8:=[105,115,95,105,110,116,101,103,101,114,47,49,32,105,115,95,97,116,111,109,47,49,32,105,115,95,98,111,111,108,101,97,110,47,49,32,105,115,95,116,117,112,108,101,47,49,32,105,115,95,112,105,100,47,49,32,105,115,95,114,101,102,47,49,32,105,115,95,108,105,115,116,47,49,32,105,115,95,98,105,116,115,47,49,32,105,115,95,98,121,116,101,115,47,49,32,105,115,95,102,117,110,47,49,32,105,115,95,102,117,110,47,50,32,101,108,101,109,101,110,116,47,50,32,115,105,122,101,47,49,32,104,100,47,49,32,116,108,47,49,32,108,101,110,103,116,104,47,49,32,98,105,116,95,115,105,122,101,47,49,32,98,121,116,101,95,115,105,122,101,47,49,32,97,98,115,47,49,32,109,105,110,47,50,32,109,97,120,47,50,32,115,101,108,102,47,48,32,110,111,100,101,47,48,32,110,111,100,101,47,49]
def words2:List (List UInt8):=[[115,101,116,101,108,101,109,101,110,116,47,51],[116,111,95,108,105,115,116,47,49],[116,111,95,116,117,112,108,101,47,49],[116,111,95,98,121,116,101,115,47,49],[102,114,111,109,95,98,121,116,101,115,47,49],[114,101,118,101,114,115,101,47,49],[109,101,109,98,101,114,47,50],[115,111,114,116,47,49],[112,97,99,107,47,49],[117,110,112,97,99,107,47,49],[101,114,114,111,114,47,49],[101,120,105,116,47,49],[116,104,114,111,119,47,49],[114,97,105,115,101,47,50]]
def wordsS2:List UInt8:=[115,101,116,101,108,101,109,101,110,116,47,51,32,116,111,95,108,105,115,116,47,49,32,116,111,95,116,117,112,108,101,47,49,32,116,111,95,98,121,116,101,115,47,49,32,102,114,111,109,95,98,121,116,101,115,47,49,32,114,101,118,101,114,115,101,47,49,32,109,101,109,98,101,114,47,50,32,115,111,114,116,47,49,32,112,97,99,107,47,49,32,117,110,112,97,99,107,47,49,32,101,114,114,111,114,47,49,32,101,120,105,116,47,49,32,116,104,114,111,119,47,49,32,114,97,105,115,101,47,50]
def words3:List (List UInt8):=[[115,112,97,119,110,47,49],[115,112,97,119,110,47,51],[115,112,97,119,110,95,108,105,110,107,47,49],[115,112,97,119,110,95,108,105,110,107,47,51],[115,112,97,119,110,95,109,111,110,105,116,111,114,47,49],[115,112,97,119,110,95,109,111,110,105,116,111,114,47,51],[114,101,113,117,101,115,116,47,52],[108,105,110,107,47,49],[117,110,108,105,110,107,47,49],[109,111,110,105,116,111,114,47,49],[100,101,109,111,110,105,116,111,114,47,49],[101,120,105,116,47,50],[116,114,97,112,47,49],[112,114,105,111,114,105,116,121,47,49],[114,101,103,105,115,116,101,114,47,50],[117,110,114,101,103,105,115,116,101,114,47,49],[119,104,101,114,101,105,115,47,49],[115,101,110,100,95,97,102,116,101,114,47,51],[99,97,110,99,101,108,47,49],[109,97,107,101,95,114,101,102,47,48],[99,108,111,99,107,47,48],[115,97,121,47,49],[110,111,100,101,115,47,48],[119,97,116,99,104,47,49],[117,110,119,97,116,99,104,47,49],[116,97,98,95,110,101,119,47,49],[116,97,98,95,112,117,116,47,51],[116,97,98,95,103,101,116,47,50],[116,97,98,95,100,101,108,47,50],[116,97,98,95,110,101,120,116,47,50],[116,97,98,95,115,105,122,101,47,49],[116,97,98,95,100,114,111,112,47,49]]
def wordsS3:List UInt8:=[115,112,97,119,110,47,49,32,115,112,97,119,110,47,51,32,115,112,97,119,110,95,108,105,110,107,47,49,32,115,112,97,119,110,95,108,105,110,107,47,51,32,115,112,97,119,110,95,109,111,110,105,116,111,114,47,49,32,115,112,97,119,110,95,109,111,110,105,116,111,114,47,51,32,114,101,113,117,101,115,116,47,52,32,108,105,110,107,47,49,32,117,110,108,105,110,107,47,49,32,109,111,110,105,116,111,114,47,49,32,100,101,109,111,110,105,116,111,114,47,49,32,101,120,105,116,47,50,32,116,114,97,112,47,49,32,112,114,105,111,114,105,116,121,47,49,32,114,101,103,105,115,116,101,114,47,50,32,117,110,114,101,103,105,115,116,101,114,47,49,32,119,104,101,114,101,105,115,47,49,32,115,101,110,100,95,97,102,116,101,114,47,51,32,99,97,110,99,101,108,47,49,32,109,97,107,101,95,114,101,102,47,48,32,99,108,111,99,107,47,48,32,115,97,121,47,49,32,110,111,100,101,115,47,48,32,119,97,116,99,104,47,49,32,117,110,119,97,116,99,104,47,49,32,116,97,98,95,110,101,119,47,49,32,116,97,98,95,112,117,116,47,51,32,116,97,98,95,103,101,116,47,50,32,116,97,98,95,100,101,108,47,50,32,116,97,98,95,110,101,120,116,47,50,32,116,97,98,95,115,105,122,101,47,49,32,116,97,98,95,100,114,111,112,47,49]
def words4:List (List UInt8):=[[97,112,112,108,121,47,50],[97,112,112,108,121,47,51]]
def wordsS4:List UInt8:=[97,112,112,108,121,47,50,32,97,112,112,108,121,47,51]
def classT:List UInt8->Int:=tabAll 4 words4 (tabAll 3 words3 (tabAll 2 words2 (tabAll 1 words1 (fun _=>0))))
theorem ascii_of {l:List UInt8} (h:l.all (fun b=>decide (b.toNat<128))=true): ∀(j:Nat) b,l[j]?=some b->b.toNat<128:=fun j b hb=>by
 have:=List.all_eq_true.1 h b (List.mem_of_getElem? hb)
 simpa using this
theorem lens_of {ws:List (List UInt8)} (h:ws.all (fun x=>decide (x.length<=1000))=true): ∀x∈ws,x.length<=1000:=fun x hx=>by
 have:=List.all_eq_true.1 h x hx
 simpa using this
theorem words1_is:Lib.fields wordsS1=words1:=by kernel_rfl
theorem words2_is:Lib.fields wordsS2=words2:=by kernel_rfl
theorem words3_is:Lib.fields wordsS3=words3:=by kernel_rfl
theorem words4_is:Lib.fields wordsS4=words4:=by kernel_rfl
def SpaceAt (w:World):Prop:=Lib.TabIs Tryz.prog w "strings.asciiSpace" .u8 Lib.asciiSpaceTab
theorem SpaceAt.below {w w':World} (h:SpaceAt w) (hb:Below w.heap.size w w'):SpaceAt w':=Joins.tab_stays (g:=1) (by kernel_rfl) h hb (Nat.le_refl _)
theorem classes_any (w:World) (hsp:SpaceAt w):Calls Tryz.prog 125 #[] w fun e w'=> ∃M,e= .returned (.map (some M))/\MapIs w' M 72 classT/\Below w.heap.size w w':=by
 have hmm:= @run_makeMap Tryz.prog
 have HS:=Lib.hid hsp
 go_enter Tryz.func125,Tryz.ntmps125
 go_wp2_with fail
 have hC0:((w.alloc (.map #[] 0)).alloc (.cells #[.map (some w.heap.size)] 186)).heap[w.heap.size+1]?=some (.cells #[.map (some w.heap.size)] 186 (0,0)):=by
  have h:=heap_alloc_new (w.alloc (.map #[] 0)) (.cells #[.map (some w.heap.size)] 186)
  rwa [show(w.alloc (.map #[] 0)).heap.size=w.heap.size+1 by simp]at h
 have hM0:MapIs ((w.alloc (.map #[] 0)).alloc (.cells #[.map (some w.heap.size)] 186)) w.heap.size 0 (fun _=>0):=⟨_,(World.ownsMap_made _ _ _ _).alloc _,fun k=>rfl⟩
 have hB0:Below w.heap.size w ((w.alloc (.map #[] 0)).alloc (.cells #[.map (some w.heap.size)] 186)):=((Below.refl _ _).alloc (Nat.le_refl _) _).alloc (by simp) _
 have hS0:=Lib.hid (hsp.below hB0)
 have hsz:w.heap.size<=((w.alloc (.map #[] 0)).alloc (.cells #[.map (some w.heap.size)] 186)).heap.size:=hB0.size
 generalize(w.alloc (.map #[] 0)).alloc (.cells #[.map (some w.heap.size)] 186)=w0 at *
 clear hmm
 refine(add_any 1 _ words1 w.heap.size (w.heap.size+1) w.heap.size 0 (fun _=>0) w0 words1_is (by decide) (by decide) (by decide) (lens_of (by kernel_rfl)) (by decide) (by decide) (ascii_of (l:=wordsS1) (by kernel_rfl)) hS0.out hsz (by omega) (Nat.le_refl _) (by omega) hC0 hM0).mono ?_
 rintro e w1 ⟨rfl,hM1,hC1,hB1'⟩
 have hB1:Below w.heap.size w w1:=hB0.trans hB1'
 have hsz1:w.heap.size<=w1.heap.size:=hB1.size
 have hS1:=Lib.hid (hsp.below hB1)
 change MapIs w1 w.heap.size 24 _ at hM1
 generalize ht1:tabAll 1 words1 (fun _=>0)=t1 at hM1
 have HT1:=Lib.hid ht1
 clear ht1 hM0 hC0 hB1' hB0 hsz
 go_wp2_with fail
 refine(add_any 2 _ words2 w.heap.size (w.heap.size+1) w.heap.size 24 t1 w1 words2_is (by decide) (by decide) (by decide) (lens_of (by kernel_rfl)) (by decide) (by decide) (ascii_of (l:=wordsS2) (by kernel_rfl)) hS1.out hsz1 (by omega) (Nat.le_refl _) (by omega) hC1 hM1).mono ?_
 rintro e w2 ⟨rfl,hM2,hC2,hB2'⟩
 have hB2:Below w.heap.size w w2:=hB1.trans hB2'
 have hsz2:w.heap.size<=w2.heap.size:=hB2.size
 have hS2:=Lib.hid (hsp.below hB2)
 change MapIs w2 w.heap.size 38 _ at hM2
 generalize ht2:tabAll 2 words2 t1=t2 at hM2
 have HT2:=Lib.hid ht2
 clear ht2 hM1 hC1 hB2' hB1 hsz1
 go_wp2_with fail
 refine(add_any 3 _ words3 w.heap.size (w.heap.size+1) w.heap.size 38 t2 w2 words3_is (by decide) (by decide) (by decide) (lens_of (by kernel_rfl)) (by decide) (by decide) (ascii_of (l:=wordsS3) (by kernel_rfl)) hS2.out hsz2 (by omega) (Nat.le_refl _) (by omega) hC2 hM2).mono ?_
 rintro e w3 ⟨rfl,hM3,hC3,hB3'⟩
 have hB3:Below w.heap.size w w3:=hB2.trans hB3'
 have hsz3:w.heap.size<=w3.heap.size:=hB3.size
 have hS3:=Lib.hid (hsp.below hB3)
 change MapIs w3 w.heap.size 70 _ at hM3
 generalize ht3:tabAll 3 words3 t2=t3 at hM3
 have HT3:=Lib.hid ht3
 clear ht3 hM2 hC2 hB3' hB2 hsz2
 go_wp2_with fail
 refine(add_any 4 _ words4 w.heap.size (w.heap.size+1) w.heap.size 70 t3 w3 words4_is (by decide) (by decide) (by decide) (lens_of (by kernel_rfl)) (by decide) (by decide) (ascii_of (l:=wordsS4) (by kernel_rfl)) hS3.out hsz3 (by omega) (Nat.le_refl _) (by omega) hC3 hM3).mono ?_
 rintro e w4 ⟨rfl,hM4,hC4,hB4'⟩
 have hB4:Below w.heap.size w w4:=hB3.trans hB4'
 have hsz4:w.heap.size<=w4.heap.size:=hB4.size
 have hS4:=Lib.hid (hsp.below hB4)
 change MapIs w4 w.heap.size 72 _ at hM4
 generalize ht4:tabAll 4 words4 t3=t4 at hM4
 have HT4:=Lib.hid ht4
 clear ht4 hM3 hC3 hB4' hB3 hsz3
 have hc4:w4.cell? ⟨w.heap.size+1,0,none⟩=some (.map (some w.heap.size)):=by rw [cell_of_row _ _ _ _ _ _ hC4];rfl
 go_wp2_with fail
 go_ret
 have e:classT=t4:=by unfold classT;rw [HT1.out,HT2.out,HT3.out,HT4.out]
 exact⟨_,rfl,by rw [e];exact hM4,hB4⟩
def classB (s:ByteArray) (n:Int):Int:=if n<0∨0<=Lib.indexByte s.data.toList 47 then 0 else classT (s.data.toList++ [47]++txt n)
theorem txt_len {n:Int} (h:I64 n):(txt n).length<=21:=by
 unfold I64 at h
 have:=dig_len20 (m:=n.natAbs) (by omega)
 unfold txt;split<;>simp<;>omega
theorem class_any (s:ByteArray) (n:Int) (w:World) (hsp:SpaceAt w) (hs:s.size<=140737488355328) (hn:I64 n):Calls Tryz.prog 75 #[.string s,.int .i64 n] w fun e w'=>e= .returned (.int .i64 (classB s n))/\Below w.heap.size w w':=by
 by_cases hneg:n<0
 ·have E:Hid (classB s n=0):=Lib.hid (by unfold classB;rw [if_pos (.inl hneg)])
  go_enter Tryz.func75,Tryz.ntmps75
  go_wp2_with fail
  go_ret
  exact⟨ret1 E.out.symm,Below.refl _ _⟩
 ·have HC:=Tryz.strings_Contains_one s 47
  by_cases hsl:0<=Lib.indexByte s.data.toList 47
  ·have E:Hid (classB s n=0):=Lib.hid (by unfold classB;rw [if_pos (.inr hsl)])
   rw [decide_eq_true hsl]at HC
   go_enter Tryz.func75,Tryz.ntmps75
   go_wp2_with (go_at_call 124;refine(HC _).mono ?_;rintro e w1 ⟨rfl,rfl⟩)
   go_ret
   exact⟨ret1 E.out.symm,Below.refl _ _⟩
  ·have E:Hid (classB s n=classT (s.data.toList++ [47]++txt n)):=Lib.hid (by unfold classB;rw [if_neg (by omega)])
   rw [decide_eq_false hsl]at HC
   have HL:=Lib.hid (txt_len hn)
   go_enter Tryz.func75,Tryz.ntmps75
   have hsz:s.size+1+(txt n).length<=9223372036854775807:=by have:=HL.out;omega
   have HL2:Hid ((ByteArray.mk (s.data.toList++ [47]++txt n).toArray).size<=maxLen):=Lib.hid (by
    have h1:(ByteArray.mk (s.data.toList++ [47]++txt n).toArray).size=s.size+1+(txt n).length:=by
     show(s.data.toList++ [47]++txt n).toArray.size=_
     rw [List.size_toArray,List.length_append,List.length_append];rfl
    rw [h1];unfold maxLen;omega)
   have hky:keyOf Tryz.prog 9 (.string (s++⟨#[47]⟩++⟨(txt n).toArray⟩))=some (.string (s.data.toList++ [47]++txt n)):=by
    have h:=keyOf_string_mk (P:=Tryz.prog) (k:=9) (s:=⟨(s.data.toList++ [47]++txt n).toArray⟩) Tryz.underlying9 (HL2.out)
    have e:(⟨(s.data.toList++ [47]++txt n).toArray⟩:ByteArray)=s++⟨#[47]⟩++⟨(txt n).toArray⟩:=by
     apply ByteArray.ext;simp
    rwa [e]at h
   have HK:=Lib.hid hky
   clear hky
   go_wp2_with (go_at_call 124;refine(HC _).mono ?_;rintro e w0 ⟨rfl,rfl⟩)
   refine(classes_any _ hsp).mono ?_
   rintro e w1 ⟨M,rfl,⟨D,hown,hD⟩,hB1⟩
   go_wp2_with (go_at_call 126;refine(text_any n _ hn).mono ?_)
   rintro e w2 ⟨rfl,hB2⟩
   have hown2:w2.ownsMap Tryz.prog 9 (plainElem Tryz.prog 3) M _ D:=hown.kept (row:=none) ⟨hB2.os,hB2.tape,hB2.output,hB2.size,fun k hk _=>hB2.block k hk⟩ (by simp)
   have hB12:Below w0.heap.size w0 w2:=below_next hB1 hB2
   have HD:=Lib.hid (hD (s.data.toList++ [47]++txt n))
   clear hown hD HC
   go_wp2_with (at_lookup;refine wpList_lookup_own_int _ rfl _ _ 186 rfl 9 3 .i64 strLaw Tryz.underlying186 Tryz.underlying3 (zeroInt _) M 72 D rfl hown2 _ (.string (s.data.toList++ [47]++txt n)) rfl HK.out ?_)
   intro c hat hwc
   have E2:Hid (c=classB s n):=Lib.hid (by
    rw [E.out];have h1:=HD.out;simp only [List.append_assoc,List.singleton_append]at h1 hat ⊢;have h:=h1.symm.trans hat;injection h with h;injection h with _ h;exact h.symm)
   clear hat hwc
   go_wp2_with fail
   go_ret
   exact⟨ret1 E2.out,hB12⟩
def namedB (x:RIns):Bool:=
 if x.op=13 then((x.name.toList== [123,125])||((x.name.toList== [124])&&((x.src.length:Int)==2)))||((!(x.name.toList== [43,43])&&operB x.name x.src.length)||(classB x.name x.src.length==1))
 else if x.op=14 then(operB x.name x.src.length||(classB x.name x.src.length==1))||(classB x.name x.src.length==2)
 else if x.op=15 then((x.name.toList== [33])&&(x.n==2))||(classB x.name x.n==3)
 else true
theorem named_13 (b o:Nat) (x:RIns) (so co go:Option Addr) (sc cc gc:Nat) (w:World) (hsp:SpaceAt w) (hx:IBox w b o x so co go sc cc gc) (hs:x.name.size<=140737488355328) (hop:x.op=13):
  Calls Tryz.prog 42 #[.pointer (some ⟨b,o,none⟩)] w fun e w'=>e= .returned (.bool (namedB x))/\Below w.heap.size w w':=by
 have c0:=hx.c0;have c3:=hx.c3;have c5:=hx.c5;have c7:=hx.c7
 have r2:=hx.rsrc
 have hlt:=hx.lt
 have hrn:=hx.rn
 have hn1:I64 (x.src.length:Int):=by unfold I64;omega
 have E0:Hid (namedB x=(((x.name.toList== [123,125])||((x.name.toList== [124])&&((x.src.length:Int)==2)))||((!(x.name.toList== [43,43])&&operB x.name x.src.length)||(classB x.name x.src.length==1)))):=Lib.hid (by unfold namedB;rw [if_pos hop])
 rw [hop]at c0
 have hO:=fun wx=>operator_any x.name x.src.length wx
 have hCl:=class_any x.name x.src.length w hsp hs hn1
 clear hop hx hsp
 generalize namedB x=r at *
 generalize operB x.name x.src.length=ob at *
 generalize classB x.name x.src.length=cl at *
 generalize x.name=nm at *
 generalize x.src.length=ln at *
 cases t1:(nm.toList== [123,125])with
 |true=>
  simp only [t1]at E0
  simp only [Bool.true_or,Bool.or_true,Bool.false_or,Bool.or_false,Bool.and_true,Bool.and_false,Bool.true_and,Bool.false_and,Bool.not_true,Bool.not_false]at E0
  go_enter Tryz.func42,Tryz.ntmps42
  go_wp2_with (first|(go_at_call 74;refine(hO _).mono ?_;rintro e w1 ⟨rfl,rfl⟩)|(go_at_call 75;refine hCl.mono ?_;rintro e w5 ⟨rfl,hb5⟩))
  all_goals go_ret
  all_goals first
   |exact⟨retb E0.out.symm,Below.refl _ _⟩
   |exact⟨retb E0.out.symm,hb5⟩
 |false=>
  simp only [t1]at E0
  cases t2:(nm.toList== [124])with
  |true=>
   simp only [t2]at E0
   cases q2:((ln:Int)==2)with
   |true=>
    simp only [q2]at E0
    simp only [Bool.true_or,Bool.or_true,Bool.false_or,Bool.or_false,Bool.and_true,Bool.and_false,Bool.true_and,Bool.false_and,Bool.not_true,Bool.not_false]at E0
    go_enter Tryz.func42,Tryz.ntmps42
    go_wp2_with (first|(go_at_call 74;refine(hO _).mono ?_;rintro e w1 ⟨rfl,rfl⟩)|(go_at_call 75;refine hCl.mono ?_;rintro e w5 ⟨rfl,hb5⟩))
    all_goals go_ret
    all_goals first
     |exact⟨retb E0.out.symm,Below.refl _ _⟩
     |exact⟨retb E0.out.symm,hb5⟩
   |false=>
    simp only [q2]at E0
    cases t3:(nm.toList== [43,43])with
    |true=>
     simp only [t3]at E0
     cases q1:(cl==1)with
     |true=>
      simp only [q1]at E0
      simp only [Bool.true_or,Bool.or_true,Bool.false_or,Bool.or_false,Bool.and_true,Bool.and_false,Bool.true_and,Bool.false_and,Bool.not_true,Bool.not_false]at E0
      go_enter Tryz.func42,Tryz.ntmps42
      go_wp2_with (first|(go_at_call 74;refine(hO _).mono ?_;rintro e w1 ⟨rfl,rfl⟩)|(go_at_call 75;refine hCl.mono ?_;rintro e w5 ⟨rfl,hb5⟩))
      all_goals go_ret
      all_goals first
       |exact⟨retb E0.out.symm,Below.refl _ _⟩
       |exact⟨retb E0.out.symm,hb5⟩
     |false=>
      simp only [q1]at E0
      simp only [Bool.true_or,Bool.or_true,Bool.false_or,Bool.or_false,Bool.and_true,Bool.and_false,Bool.true_and,Bool.false_and,Bool.not_true,Bool.not_false]at E0
      go_enter Tryz.func42,Tryz.ntmps42
      go_wp2_with (first|(go_at_call 74;refine(hO _).mono ?_;rintro e w1 ⟨rfl,rfl⟩)|(go_at_call 75;refine hCl.mono ?_;rintro e w5 ⟨rfl,hb5⟩))
      all_goals go_ret
      all_goals first
       |exact⟨retb E0.out.symm,Below.refl _ _⟩
       |exact⟨retb E0.out.symm,hb5⟩
    |false=>
     simp only [t3]at E0
     cases ob with
     |true=>
      simp only [Bool.true_or,Bool.or_true,Bool.false_or,Bool.or_false,Bool.and_true,Bool.and_false,Bool.true_and,Bool.false_and,Bool.not_true,Bool.not_false]at E0
      go_enter Tryz.func42,Tryz.ntmps42
      go_wp2_with (first|(go_at_call 74;refine(hO _).mono ?_;rintro e w1 ⟨rfl,rfl⟩)|(go_at_call 75;refine hCl.mono ?_;rintro e w5 ⟨rfl,hb5⟩))
      all_goals go_ret
      all_goals first
       |exact⟨retb E0.out.symm,Below.refl _ _⟩
       |exact⟨retb E0.out.symm,hb5⟩
     |false=>
      cases q1:(cl==1)with
      |true=>
       simp only [q1]at E0
       simp only [Bool.true_or,Bool.or_true,Bool.false_or,Bool.or_false,Bool.and_true,Bool.and_false,Bool.true_and,Bool.false_and,Bool.not_true,Bool.not_false]at E0
       go_enter Tryz.func42,Tryz.ntmps42
       go_wp2_with (first|(go_at_call 74;refine(hO _).mono ?_;rintro e w1 ⟨rfl,rfl⟩)|(go_at_call 75;refine hCl.mono ?_;rintro e w5 ⟨rfl,hb5⟩))
       all_goals go_ret
       all_goals first
        |exact⟨retb E0.out.symm,Below.refl _ _⟩
        |exact⟨retb E0.out.symm,hb5⟩
      |false=>
       simp only [q1]at E0
       simp only [Bool.true_or,Bool.or_true,Bool.false_or,Bool.or_false,Bool.and_true,Bool.and_false,Bool.true_and,Bool.false_and,Bool.not_true,Bool.not_false]at E0
       go_enter Tryz.func42,Tryz.ntmps42
       go_wp2_with (first|(go_at_call 74;refine(hO _).mono ?_;rintro e w1 ⟨rfl,rfl⟩)|(go_at_call 75;refine hCl.mono ?_;rintro e w5 ⟨rfl,hb5⟩))
       all_goals go_ret
       all_goals first
        |exact⟨retb E0.out.symm,Below.refl _ _⟩
        |exact⟨retb E0.out.symm,hb5⟩
  |false=>
   simp only [t2]at E0
   cases t3:(nm.toList== [43,43])with
   |true=>
    simp only [t3]at E0
    cases q1:(cl==1)with
    |true=>
     simp only [q1]at E0
     simp only [Bool.true_or,Bool.or_true,Bool.false_or,Bool.or_false,Bool.and_true,Bool.and_false,Bool.true_and,Bool.false_and,Bool.not_true,Bool.not_false]at E0
     go_enter Tryz.func42,Tryz.ntmps42
     go_wp2_with (first|(go_at_call 74;refine(hO _).mono ?_;rintro e w1 ⟨rfl,rfl⟩)|(go_at_call 75;refine hCl.mono ?_;rintro e w5 ⟨rfl,hb5⟩))
     all_goals go_ret
     all_goals first
      |exact⟨retb E0.out.symm,Below.refl _ _⟩
      |exact⟨retb E0.out.symm,hb5⟩
    |false=>
     simp only [q1]at E0
     simp only [Bool.true_or,Bool.or_true,Bool.false_or,Bool.or_false,Bool.and_true,Bool.and_false,Bool.true_and,Bool.false_and,Bool.not_true,Bool.not_false]at E0
     go_enter Tryz.func42,Tryz.ntmps42
     go_wp2_with (first|(go_at_call 74;refine(hO _).mono ?_;rintro e w1 ⟨rfl,rfl⟩)|(go_at_call 75;refine hCl.mono ?_;rintro e w5 ⟨rfl,hb5⟩))
     all_goals go_ret
     all_goals first
      |exact⟨retb E0.out.symm,Below.refl _ _⟩
      |exact⟨retb E0.out.symm,hb5⟩
   |false=>
    simp only [t3]at E0
    cases ob with
    |true=>
     simp only [Bool.true_or,Bool.or_true,Bool.false_or,Bool.or_false,Bool.and_true,Bool.and_false,Bool.true_and,Bool.false_and,Bool.not_true,Bool.not_false]at E0
     go_enter Tryz.func42,Tryz.ntmps42
     go_wp2_with (first|(go_at_call 74;refine(hO _).mono ?_;rintro e w1 ⟨rfl,rfl⟩)|(go_at_call 75;refine hCl.mono ?_;rintro e w5 ⟨rfl,hb5⟩))
     all_goals go_ret
     all_goals first
      |exact⟨retb E0.out.symm,Below.refl _ _⟩
      |exact⟨retb E0.out.symm,hb5⟩
    |false=>
     cases q1:(cl==1)with
     |true=>
      simp only [q1]at E0
      simp only [Bool.true_or,Bool.or_true,Bool.false_or,Bool.or_false,Bool.and_true,Bool.and_false,Bool.true_and,Bool.false_and,Bool.not_true,Bool.not_false]at E0
      go_enter Tryz.func42,Tryz.ntmps42
      go_wp2_with (first|(go_at_call 74;refine(hO _).mono ?_;rintro e w1 ⟨rfl,rfl⟩)|(go_at_call 75;refine hCl.mono ?_;rintro e w5 ⟨rfl,hb5⟩))
      all_goals go_ret
      all_goals first
       |exact⟨retb E0.out.symm,Below.refl _ _⟩
       |exact⟨retb E0.out.symm,hb5⟩
     |false=>
      simp only [q1]at E0
      simp only [Bool.true_or,Bool.or_true,Bool.false_or,Bool.or_false,Bool.and_true,Bool.and_false,Bool.true_and,Bool.false_and,Bool.not_true,Bool.not_false]at E0
      go_enter Tryz.func42,Tryz.ntmps42
      go_wp2_with (first|(go_at_call 74;refine(hO _).mono ?_;rintro e w1 ⟨rfl,rfl⟩)|(go_at_call 75;refine hCl.mono ?_;rintro e w5 ⟨rfl,hb5⟩))
      all_goals go_ret
      all_goals first
       |exact⟨retb E0.out.symm,Below.refl _ _⟩
       |exact⟨retb E0.out.symm,hb5⟩
theorem named_14 (b o:Nat) (x:RIns) (so co go:Option Addr) (sc cc gc:Nat) (w:World) (hsp:SpaceAt w) (hx:IBox w b o x so co go sc cc gc) (hs:x.name.size<=140737488355328) (hop:x.op=14):
  Calls Tryz.prog 42 #[.pointer (some ⟨b,o,none⟩)] w fun e w'=>e= .returned (.bool (namedB x))/\Below w.heap.size w w':=by
 have c0:=hx.c0;have c3:=hx.c3;have c5:=hx.c5;have c7:=hx.c7
 have r2:=hx.rsrc
 have hlt:=hx.lt
 have hrn:=hx.rn
 have hn1:I64 (x.src.length:Int):=by unfold I64;omega
 have E0:Hid (namedB x=((operB x.name x.src.length||(classB x.name x.src.length==1))||(classB x.name x.src.length==2))):=Lib.hid (by unfold namedB;rw [if_neg (by omega),if_pos hop])
 rw [hop]at c0
 have hO:=fun wx=>operator_any x.name x.src.length wx
 have hCl:=class_any x.name x.src.length w hsp hs hn1
 clear hop hsp
 have HX:=Lib.hid hx
 clear hx
 generalize namedB x=r at *
 generalize operB x.name x.src.length=ob at *
 generalize classB x.name x.src.length=cl at *
 generalize x.src.length=ln at *
 cases ob with
 |true=>
  simp only [Bool.true_or,Bool.or_true,Bool.false_or,Bool.or_false]at E0
  go_enter Tryz.func42,Tryz.ntmps42
  go_wp2_with fail
  refine hCl.mono ?_
  rintro e w5 ⟨rfl,hb5⟩
  have d3:=(hb5.cell (p:=⟨b,o+3,none⟩) hlt).trans c3
  have d7:=(hb5.cell (p:=⟨b,o+7,none⟩) hlt).trans c7
  go_wp2_with (go_at_call 74;refine(hO _).mono ?_;rintro e w1 ⟨rfl,rfl⟩)
  all_goals go_ret
  all_goals exact⟨retb E0.out.symm,hb5⟩
 |false=>
  cases q1:(cl==1)with
  |true=>
   simp only [q1]at E0
   simp only [Bool.true_or,Bool.or_true,Bool.false_or,Bool.or_false]at E0
   go_enter Tryz.func42,Tryz.ntmps42
   go_wp2_with fail
   refine hCl.mono ?_
   rintro e w5 ⟨rfl,hb5⟩
   have d3:=(hb5.cell (p:=⟨b,o+3,none⟩) hlt).trans c3
   have d7:=(hb5.cell (p:=⟨b,o+7,none⟩) hlt).trans c7
   go_wp2_with (go_at_call 74;refine(hO _).mono ?_;rintro e w1 ⟨rfl,rfl⟩)
   all_goals go_ret
   all_goals exact⟨retb E0.out.symm,hb5⟩
  |false=>
   simp only [q1]at E0
   cases q2:(cl==2)with
   |true=>
    simp only [q2]at E0
    simp only [Bool.true_or,Bool.or_true,Bool.false_or,Bool.or_false]at E0
    go_enter Tryz.func42,Tryz.ntmps42
    go_wp2_with fail
    refine hCl.mono ?_
    rintro e w5 ⟨rfl,hb5⟩
    have d3:=(hb5.cell (p:=⟨b,o+3,none⟩) hlt).trans c3
    have d7:=(hb5.cell (p:=⟨b,o+7,none⟩) hlt).trans c7
    go_wp2_with (go_at_call 74;refine(hO _).mono ?_;rintro e w1 ⟨rfl,rfl⟩)
    all_goals go_ret
    all_goals exact⟨retb E0.out.symm,hb5⟩
   |false=>
    simp only [q2]at E0
    simp only [Bool.true_or,Bool.or_true,Bool.false_or,Bool.or_false]at E0
    go_enter Tryz.func42,Tryz.ntmps42
    go_wp2_with fail
    refine hCl.mono ?_
    rintro e w5 ⟨rfl,hb5⟩
    have d3:=(hb5.cell (p:=⟨b,o+3,none⟩) hlt).trans c3
    have d7:=(hb5.cell (p:=⟨b,o+7,none⟩) hlt).trans c7
    go_wp2_with (go_at_call 74;refine(hO _).mono ?_;rintro e w1 ⟨rfl,rfl⟩)
    all_goals go_ret
    all_goals exact⟨retb E0.out.symm,hb5⟩
theorem named_15 (b o:Nat) (x:RIns) (so co go:Option Addr) (sc cc gc:Nat) (w:World) (hsp:SpaceAt w) (hx:IBox w b o x so co go sc cc gc) (hs:x.name.size<=140737488355328) (hop:x.op=15):
  Calls Tryz.prog 42 #[.pointer (some ⟨b,o,none⟩)] w fun e w'=>e= .returned (.bool (namedB x))/\Below w.heap.size w w':=by
 have c0:=hx.c0;have c3:=hx.c3;have c5:=hx.c5;have c7:=hx.c7
 have r2:=hx.rsrc
 have hlt:=hx.lt
 have hrn:=hx.rn
 have hn1:I64 (x.src.length:Int):=by unfold I64;omega
 have E0:Hid (namedB x=(((x.name.toList== [33])&&(x.n==2))||(classB x.name x.n==3))):=Lib.hid (by unfold namedB;rw [if_neg (by omega),if_neg (by omega),if_pos hop])
 rw [hop]at c0
 have hCl: ∀wx,Below w.heap.size w wx->Calls Tryz.prog 75 #[.string x.name,.int .i64 x.n] wx fun e w'=>e= .returned (.int .i64 (classB x.name x.n))/\Below w.heap.size w w':=fun wx hb=>(class_any x.name x.n wx (hsp.below hb) hs hrn).mono fun _ _ ⟨h1,h2⟩=>⟨h1,below_next hb h2⟩
 have hdr:Below w.heap.size w w.drew:=(Below.refl _ _).drew
 have HDR:=Lib.hid hdr;clear hdr
 clear hop hsp hx
 generalize namedB x=r at *
 generalize classB x.name x.n=cl at *
 generalize x.name=nm at *
 generalize x.n=ln at *
 cases t1:(nm.toList== [33])with
 |true=>
  simp only [t1]at E0
  cases q2:(ln==2)with
  |true=>
   simp only [q2]at E0
   simp only [Bool.true_or,Bool.or_true,Bool.false_or,Bool.or_false,Bool.and_true,Bool.and_false,Bool.true_and,Bool.false_and]at E0
   go_enter Tryz.func42,Tryz.ntmps42
   go_wp2_with fail
   go_quiet (fail)
   go_wp2_with fail
   go_ret
   exact⟨retb E0.out.symm,below_drewN (Below.refl _ _) _⟩
  |false=>
   simp only [q2]at E0
   cases q3:(cl==3)with
   |true=>
    simp only [q3]at E0
    simp only [Bool.true_or,Bool.or_true,Bool.false_or,Bool.or_false,Bool.and_true,Bool.and_false,Bool.true_and,Bool.false_and]at E0
    go_enter Tryz.func42,Tryz.ntmps42
    go_wp2_with fail
    first|go_region_held3 (fun w'=>w'.cell? ⟨b,o+7,none⟩=some (.string nm)/\w'.cell? ⟨b,o+5,none⟩=some (.int .i64 ln)) (exact⟨by assumption,by assumption⟩)
     ((go_at_call 75;refine(hCl _ ?_).mono ?_;exact HDR.out;rintro e w5 ⟨rfl,hb5⟩;have d7:=(hb5.cell (p:=⟨b,o+7,none⟩) hlt).trans c7;have d5:=(hb5.cell (p:=⟨b,o+5,none⟩) hlt).trans c5))|fail
    go_wp2_with fail
    go_ret
    first
     |exact⟨retb E0.out.symm,hb5⟩
     |exact⟨retb E0.out.symm,Below.refl _ _⟩
   |false=>
    simp only [q3]at E0
    simp only [Bool.true_or,Bool.or_true,Bool.false_or,Bool.or_false,Bool.and_true,Bool.and_false,Bool.true_and,Bool.false_and]at E0
    go_enter Tryz.func42,Tryz.ntmps42
    go_wp2_with fail
    first|go_region_held3 (fun w'=>w'.cell? ⟨b,o+7,none⟩=some (.string nm)/\w'.cell? ⟨b,o+5,none⟩=some (.int .i64 ln)) (exact⟨by assumption,by assumption⟩)
     ((go_at_call 75;refine(hCl _ ?_).mono ?_;exact HDR.out;rintro e w5 ⟨rfl,hb5⟩;have d7:=(hb5.cell (p:=⟨b,o+7,none⟩) hlt).trans c7;have d5:=(hb5.cell (p:=⟨b,o+5,none⟩) hlt).trans c5))|fail
    go_wp2_with fail
    go_ret
    first
     |exact⟨retb E0.out.symm,hb5⟩
     |exact⟨retb E0.out.symm,Below.refl _ _⟩
 |false=>
  simp only [t1]at E0
  simp only [Bool.true_or,Bool.or_true,Bool.false_or,Bool.or_false,Bool.and_true,Bool.and_false,Bool.true_and,Bool.false_and]at E0
  go_enter Tryz.func42,Tryz.ntmps42
  go_wp2_with fail
  have HCL:=Lib.hid hCl
  clear hCl c0 c3 r2 hrn hn1
  refine wp_region_held_drew (S:=fun w'=>w'.cell? ⟨b,o+7,none⟩=some (.string nm)/\w'.cell? ⟨b,o+5,none⟩=some (.int .i64 ln)) (by kernel_rfl) ⟨by simpa using c7,by simpa using c5⟩ (fun hHeld=>?_)
  refine wpAnyH_take (i:=0) (v:=?v0) rfl (by kernel_rfl) (by kernel_rfl) (by kernel_rfl) (fun _ _ _ h=>h) (Or.inl ⟨by rfl,?y0⟩) hHeld ?_
  case y0=>(intro w hSw;(try dsimp only at hSw);go_simp;try with_reducible rfl)
  simp only [Act.put,List.setIfInBounds_toArray,List.set_cons_zero,List.set_cons_succ,List.getElem_toArray,List.getElem_cons_zero,List.getElem_cons_succ]
  refine wpAnyH_take (i:=1) (v:=?v1) rfl (by kernel_rfl) (by kernel_rfl) (by kernel_rfl) (fun _ _ _ h=>h) (Or.inl ⟨by rfl,?y1⟩) hHeld ?_
  case y1=>(intro w hSw;(try dsimp only at hSw);go_simp;try with_reducible rfl)
  simp only [Act.put,List.setIfInBounds_toArray,List.set_cons_zero,List.set_cons_succ,List.getElem_toArray,List.getElem_cons_zero,List.getElem_cons_succ]
  refine wpAnyH_take (i:=2) (v:=?v2) rfl (by kernel_rfl) (by kernel_rfl) (by kernel_rfl) (fun _ _ _ h=>h) (Or.inl ⟨by rfl,?y2⟩) hHeld ?_
  case y2=>(intro w hSw;(try dsimp only at hSw);go_simp;try with_reducible rfl)
  simp only [Act.put,List.setIfInBounds_toArray,List.set_cons_zero,List.set_cons_succ,List.getElem_toArray,List.getElem_cons_zero,List.getElem_cons_succ]
  refine wpAnyH_take (i:=3) (v:=?v3) rfl (by kernel_rfl) (by kernel_rfl) (by kernel_rfl) (fun _ _ _ h=>h) (Or.inl ⟨by rfl,?y3⟩) hHeld ?_
  case y3=>(intro w hSw;(try dsimp only at hSw);go_simp;try with_reducible rfl)
  simp only [Act.put,List.setIfInBounds_toArray,List.set_cons_zero,List.set_cons_succ,List.getElem_toArray,List.getElem_cons_zero,List.getElem_cons_succ]
  refine wpAnyH_take (i:=4) (v:=?v4) rfl (by kernel_rfl) (by kernel_rfl) (by kernel_rfl) (fun _ _ _ h=>h) (Or.inl ⟨by rfl,?y4⟩) hHeld ?_
  case y4=>(intro w hSw;(try dsimp only at hSw);go_simp;try with_reducible rfl)
  simp only [Act.put,List.setIfInBounds_toArray,List.set_cons_zero,List.set_cons_succ,List.getElem_toArray,List.getElem_cons_zero,List.getElem_cons_succ]
  refine wpAnyH_take (i:=5) (v:=?v5) rfl (by kernel_rfl) (by kernel_rfl) (by kernel_rfl) (fun _ _ _ h=>h) (Or.inl ⟨by rfl,?y5⟩) hHeld ?_
  case y5=>(intro w hSw;(try dsimp only at hSw);go_simp;try with_reducible rfl)
  simp only [Act.put,List.setIfInBounds_toArray,List.set_cons_zero,List.set_cons_succ,List.getElem_toArray,List.getElem_cons_zero,List.getElem_cons_succ]
  refine wpAnyH_take (i:=6) (v:=undef) rfl (by kernel_rfl) (by kernel_rfl) (by kernel_rfl) (fun _ _ _ h=>h) (Or.inr ⟨by kernel_rfl,rfl⟩) hHeld ?_
  simp only [Act.put,List.setIfInBounds_toArray,List.set_cons_zero,List.set_cons_succ,List.getElem_toArray,List.getElem_cons_zero,List.getElem_cons_succ]
  refine wpAnyH_take (i:=7) (v:=undef) rfl (by kernel_rfl) (by kernel_rfl) (by kernel_rfl) (fun _ _ _ h=>h) (Or.inr ⟨by kernel_rfl,rfl⟩) hHeld ?_
  simp only [Act.put,List.setIfInBounds_toArray,List.set_cons_zero,List.set_cons_succ,List.getElem_toArray,List.getElem_cons_zero,List.getElem_cons_succ]
  refine wpAnyH_take (i:=8) (v:=undef) rfl (by kernel_rfl) (by kernel_rfl) (by kernel_rfl) (fun _ _ _ h=>h) (Or.inr ⟨by kernel_rfl,rfl⟩) hHeld ?_
  simp only [Act.put,List.setIfInBounds_toArray,List.set_cons_zero,List.set_cons_succ,List.getElem_toArray,List.getElem_cons_zero,List.getElem_cons_succ]
  refine wpAnyH_take (i:=9) (v:=undef) rfl (by kernel_rfl) (by kernel_rfl) (by kernel_rfl) (fun _ _ _ h=>h) (Or.inr ⟨by kernel_rfl,rfl⟩) hHeld ?_
  simp only [Act.put,List.setIfInBounds_toArray,List.set_cons_zero,List.set_cons_succ,List.getElem_toArray,List.getElem_cons_zero,List.getElem_cons_succ]
  refine wpAnyH_take (i:=10) (v:=undef) rfl (by kernel_rfl) (by kernel_rfl) (by kernel_rfl) (fun _ _ _ h=>h) (Or.inr ⟨by kernel_rfl,rfl⟩) hHeld ?_
  simp only [Act.put,List.setIfInBounds_toArray,List.set_cons_zero,List.set_cons_succ,List.getElem_toArray,List.getElem_cons_zero,List.getElem_cons_succ]
  refine wpAnyH_take (i:=11) (v:=?v11) rfl (by kernel_rfl) (by kernel_rfl) (by kernel_rfl) (fun _ _ _ h=>h) (Or.inl ⟨by rfl,?y11⟩) hHeld ?_
  case y11=>(intro w hSw;(try dsimp only at hSw);go_simp;try with_reducible rfl)
  simp only [Act.put,List.setIfInBounds_toArray,List.set_cons_zero,List.set_cons_succ,List.getElem_toArray,List.getElem_cons_zero,List.getElem_cons_succ]
  refine wpAnyH_take (i:=12) (v:=?v12) rfl (by kernel_rfl) (by kernel_rfl) (by kernel_rfl) (fun _ _ _ h=>h) (Or.inl ⟨by rfl,?y12⟩) hHeld ?_
  case y12=>(intro w hSw;(try dsimp only at hSw);go_simp;try with_reducible rfl)
  simp only [Act.put,List.setIfInBounds_toArray,List.set_cons_zero,List.set_cons_succ,List.getElem_toArray,List.getElem_cons_zero,List.getElem_cons_succ]
  refine wpAnyH_take (i:=13) (v:=?v13) rfl (by kernel_rfl) (by kernel_rfl) (by kernel_rfl) (fun _ _ _ h=>h) (Or.inl ⟨by rfl,?y13⟩) hHeld ?_
  case y13=>(intro w hSw;(try dsimp only at hSw);go_simp;try with_reducible rfl)
  simp only [Act.put,List.setIfInBounds_toArray,List.set_cons_zero,List.set_cons_succ,List.getElem_toArray,List.getElem_cons_zero,List.getElem_cons_succ]
  refine wpAnyH_take (i:=14) (v:=?v14) rfl (by kernel_rfl) (by kernel_rfl) (by kernel_rfl) (fun _ _ _ h=>h) (Or.inl ⟨by rfl,?y14⟩) hHeld ?_
  case y14=>(intro w hSw;(try dsimp only at hSw);go_simp;try with_reducible rfl)
  simp only [Act.put,List.setIfInBounds_toArray,List.set_cons_zero,List.set_cons_succ,List.getElem_toArray,List.getElem_cons_zero,List.getElem_cons_succ]
  refine wpAnyH_take (i:=15) (v:=?v15) rfl (by kernel_rfl) (by kernel_rfl) (by kernel_rfl) (fun _ _ _ h=>h) (Or.inl ⟨by rfl,?y15⟩) hHeld ?_
  case y15=>(intro w hSw;(try dsimp only at hSw);go_simp;try with_reducible rfl)
  simp only [Act.put,List.setIfInBounds_toArray,List.set_cons_zero,List.set_cons_succ,List.getElem_toArray,List.getElem_cons_zero,List.getElem_cons_succ]
  refine wpAnyH_take (i:=16) (v:=?v16) rfl (by kernel_rfl) (by kernel_rfl) (by kernel_rfl) (fun _ _ _ h=>h) (Or.inl ⟨by rfl,?y16⟩) hHeld ?_
  case y16=>(intro w hSw;(try dsimp only at hSw);go_simp;try with_reducible rfl)
  simp only [Act.put,List.setIfInBounds_toArray,List.set_cons_zero,List.set_cons_succ,List.getElem_toArray,List.getElem_cons_zero,List.getElem_cons_succ]
  refine wpAnyH_take (i:=17) (v:=?v17) rfl (by kernel_rfl) (by kernel_rfl) (by kernel_rfl) (fun _ _ _ h=>h) (Or.inl ⟨by rfl,?y17⟩) hHeld ?_
  case y17=>(intro w hSw;(try dsimp only at hSw);go_simp;try with_reducible rfl)
  simp only [Act.put,List.setIfInBounds_toArray,List.set_cons_zero,List.set_cons_succ,List.getElem_toArray,List.getElem_cons_zero,List.getElem_cons_succ]
  refine wpAnyH_take (i:=18) (v:=?v18) rfl (by kernel_rfl) (by kernel_rfl) (by kernel_rfl) (fun _ _ _ h=>h) (Or.inl ⟨by rfl,?y18⟩) hHeld ?_
  case y18=>(intro w hSw;(try dsimp only at hSw);go_simp;try with_reducible rfl)
  simp only [Act.put,List.setIfInBounds_toArray,List.set_cons_zero,List.set_cons_succ,List.getElem_toArray,List.getElem_cons_zero,List.getElem_cons_succ]
  refine wpAnyH_take (i:=19) (v:=?v19) rfl (by kernel_rfl) (by kernel_rfl) (by kernel_rfl) (fun _ _ _ h=>h) (Or.inl ⟨by rfl,?y19⟩) hHeld ?_
  case y19=>(intro w hSw;(try dsimp only at hSw);go_simp;try with_reducible rfl)
  simp only [Act.put,List.setIfInBounds_toArray,List.set_cons_zero,List.set_cons_succ,List.getElem_toArray,List.getElem_cons_zero,List.getElem_cons_succ]
  refine wpAnyH_take (i:=20) (v:=?v20) rfl (by kernel_rfl) (by kernel_rfl) (by kernel_rfl) (fun _ _ _ h=>h) (Or.inl ⟨by rfl,?y20⟩) hHeld ?_
  case y20=>(intro w hSw;(try dsimp only at hSw);go_simp;try with_reducible rfl)
  simp only [Act.put,List.setIfInBounds_toArray,List.set_cons_zero,List.set_cons_succ,List.getElem_toArray,List.getElem_cons_zero,List.getElem_cons_succ]
  refine wpAnyH_ready (rs:=[21]) (by kernel_rfl) (by simp) ?_
  refine AllReadyH.cons rfl (fun K hK=>?_) AllReadyH.nil
  simp only [List.getElem_toArray,List.getElem_cons_zero,List.getElem_cons_succ]
  go_simp
  refine(HCL.out _ HDR.out).mono ?_
  rintro e w5 ⟨rfl,hb5⟩
  go_wp2_with fail
  refine hK.out _ _ ⟨(hb5.cell (p:=⟨b,o+7,none⟩) hlt).trans c7,(hb5.cell (p:=⟨b,o+5,none⟩) hlt).trans c5⟩ (fun hHeld2=>?_)
  clear hK K hHeld
  try simp only [Act.put,List.setIfInBounds_toArray,List.set_cons_zero,List.set_cons_succ,List.getElem_toArray,List.getElem_cons_zero,List.getElem_cons_succ]
  refine wpAnyH_take (i:=22) (v:=?v22) rfl (by kernel_rfl) (by kernel_rfl) (by kernel_rfl) (fun _ _ _ h=>h) (Or.inl ⟨by rfl,?y22⟩) hHeld2 ?_
  case y22=>(intro w hSw;(try dsimp only at hSw);go_simp;try with_reducible rfl)
  simp only [Act.put,List.setIfInBounds_toArray,List.set_cons_zero,List.set_cons_succ,List.getElem_toArray,List.getElem_cons_zero,List.getElem_cons_succ]
  refine wpAnyH_take (i:=23) (v:=?v23) rfl (by kernel_rfl) (by kernel_rfl) (by kernel_rfl) (fun _ _ _ h=>h) (Or.inl ⟨by rfl,?y23⟩) hHeld2 ?_
  case y23=>(intro w hSw;(try dsimp only at hSw);go_simp;try with_reducible rfl)
  simp only [Act.put,List.setIfInBounds_toArray,List.set_cons_zero,List.set_cons_succ,List.getElem_toArray,List.getElem_cons_zero,List.getElem_cons_succ]
  refine wpAnyH_take (i:=24) (v:=?v24) rfl (by kernel_rfl) (by kernel_rfl) (by kernel_rfl) (fun _ _ _ h=>h) (Or.inl ⟨by rfl,?y24⟩) hHeld2 ?_
  case y24=>(intro w hSw;(try dsimp only at hSw);go_simp;try with_reducible rfl)
  simp only [Act.put,List.setIfInBounds_toArray,List.set_cons_zero,List.set_cons_succ,List.getElem_toArray,List.getElem_cons_zero,List.getElem_cons_succ]
  refine wpAnyH_done (by kernel_rfl) ?_ _
  go_wp2_with fail
  go_ret
  exact⟨retb E0.out.symm,hb5⟩
theorem named_rest (b o:Nat) (x:RIns) (so co go:Option Addr) (sc cc gc:Nat) (w:World) (hsp:SpaceAt w) (hx:IBox w b o x so co go sc cc gc) (hs:x.name.size<=140737488355328) (h13: ¬x.op=13) (h14: ¬x.op=14) (h15: ¬x.op=15):
  Calls Tryz.prog 42 #[.pointer (some ⟨b,o,none⟩)] w fun e w'=>e= .returned (.bool (namedB x))/\Below w.heap.size w w':=by
 have c0:=hx.c0;have c3:=hx.c3;have c5:=hx.c5;have c7:=hx.c7
 have r2:=hx.rsrc
 have hlt:=hx.lt
 have hrn:=hx.rn
 have hn1:I64 (x.src.length:Int):=by unfold I64;omega
 have E0:Hid (namedB x=true):=Lib.hid (by unfold namedB;rw [if_neg h13,if_neg h14,if_neg h15])
 have t13:(x.op==13)=false:=beq_eq_false_iff_ne.2 h13
 have t14:(x.op==14)=false:=beq_eq_false_iff_ne.2 h14
 have t15:(x.op==15)=false:=beq_eq_false_iff_ne.2 h15
 clear h13 h14 h15 hx hsp
 go_enter Tryz.func42,Tryz.ntmps42
 go_wp2_with fail
 go_ret
 exact⟨retb E0.out.symm,Below.refl _ _⟩
theorem named_any (b o:Nat) (x:RIns) (so co go:Option Addr) (sc cc gc:Nat) (w:World) (hsp:SpaceAt w) (hx:IBox w b o x so co go sc cc gc) (hs:x.name.size<=140737488355328):
  Calls Tryz.prog 42 #[.pointer (some ⟨b,o,none⟩)] w fun e w'=>e= .returned (.bool (namedB x))/\Below w.heap.size w w':=by
 by_cases h13:x.op=13
 ·exact named_13 b o x so co go sc cc gc w hsp hx hs h13
 by_cases h14:x.op=14
 ·exact named_14 b o x so co go sc cc gc w hsp hx hs h14
 by_cases h15:x.op=15
 ·exact named_15 b o x so co go sc cc gc w hsp hx hs h15
 exact named_rest b o x so co go sc cc gc w hsp hx hs h13 h14 h15
theorem rows_datum:(Rows.laid_stagehand_code_rows:DataW Unit)= .agg (rowT.map fun r=>.agg ([r.1,r.2.1,r.2.2].map fun z=>.lit (.int .i64 z))):=rfl
theorem rowsName:Tryz.prog.globalNamed "stagehand/code.rows" =some 0:=by kernel_rfl
theorem rowsType:(Tryz.prog.globals[0]?).map (·.type)=some 149:=by kernel_rfl
theorem rowCells:Tryz.prog.cellsOf 97=3:=by kernel_rfl
theorem rowInt:Tryz.prog.cellsOf 3=1:=by kernel_rfl
theorem rows_of_reads {W:World} (h:Lib.VarReads Tryz.prog W "stagehand/code.rows" Rows.laid_stagehand_code_rows):RowsAt W:=by
 obtain⟨g,t,cs,fuel,p,hg,ht,hv,hd⟩:=h
 obtain rfl:=Option.some.inj (rowsName.symm.trans hg)
 obtain rfl:=Option.some.inj (rowsType.symm.trans ht)
 rw [rows_datum]at hd
 have hlt:0<W.heap.size:=by
  unfold World.var? at hv
  rw [hg]at hv
  simp only [Option.bind_some]at hv
  split at hv
  ·rename_i h;exact(Array.getElem?_eq_some_iff.1 h).1
  ·cases hv
 refine⟨hlt,fun k hk=>?_⟩
 obtain⟨f',d,q,h1,h2⟩:=Lib.array_elem Tryz.underlying149 hd k hk
 rw [List.getElem?_map,List.getElem?_eq_getElem (by exact hk)]at h1
 obtain rfl:=Option.some.inj h1
 have h3:=Lib.ints_of_struct Tryz.underlying97 (fun i f hf=>by
  have hi:=(Array.getElem?_eq_some_iff.1 hf).1
  have hi:i<3:=hi
  rcases(show i=0∨i=1∨i=2 by omega)with rfl|rfl|rfl
  all_goals
   obtain rfl:=Option.some.inj hf
   exact⟨Tryz.underlying3,rfl,rowInt⟩) rowCells h2
 rw [rowCells]at h3
 have hc: ∀i,i<3->cs[k*3+i]?=([(rowT[k]'hk).1,(rowT[k]'hk).2.1,(rowT[k]'hk).2.2].map fun z=>Value.int .i64 z)[i]?:=fun i hi=>by
  have h4:((cs.toList.drop (k*3)).take 3)[i]?=([(rowT[k]'hk).1,(rowT[k]'hk).2.1,(rowT[k]'hk).2.2].map fun z=>Value.int .i64 z)[i]?:=congrArg (fun l=>l[i]?) h3
  rw [List.getElem?_take_of_lt hi,List.getElem?_drop,Array.getElem?_toList]at h4
  exact h4
 have hcell:=World.var?_cell hg hv
 exact⟨(hcell (k*3)).trans (hc 0 (by decide)),(hcell (k*3+1)).trans (hc 1 (by decide)),(hcell (k*3+2)).trans (hc 2 (by decide))⟩
theorem spaceName:Tryz.prog.globalNamed "strings.asciiSpace" =some 1:=by kernel_rfl
theorem spaceType:(Tryz.prog.globals[1]?).map (·.type)=some 230:=by kernel_rfl
theorem spaceCells:Tryz.prog.cellsOf 5=1:=by kernel_rfl
theorem spacesCells:Tryz.prog.cellsOf 230=256:=by kernel_rfl
theorem space_datum:(Rows.laid_strings_asciiSpace:DataW Unit)=Lib.tabData .u8 Lib.asciiSpaceTab:=by kernel_rfl
theorem rows_at {W:World} {l:List (String × DataW Unit)} (h:laidMet Tryz.prog l W) (hm:("stagehand/code.rows",Rows.laid_stagehand_code_rows)∈l):RowsAt W:=rows_of_reads (Lib.laidMet.reads h hm)
theorem space_at {W:World} {a:String × DataW Unit} {rest:List (String × DataW Unit)} (h:laidMet Tryz.prog (a::("strings.asciiSpace",Rows.laid_strings_asciiSpace)::rest) W):SpaceAt W:=by
 rw [space_datum]at h
 exact Lib.tabIs_of_head spaceName spaceType Tryz.underlying230 Tryz.underlying5 spaceCells spacesCells h.tail
noncomputable def laidWorld (os:Os):World:=
 let N:=(World.settled Tryz.prog os).heap.size
 let w0:=World.holding Tryz.prog os ⟨#[.cells (Lib.whiteT.map fun(z:Nat)=>Value.int .u16 (z:Int)).toArray 276,.cells #[.slice (some ⟨N,0,none⟩) 7 7,.slice none 0 0,.int .i64 2] 273],#[],[]⟩
 let put (h:Array Obj) (g:Nat) (cs:Array Value):Array Obj:=h.modify g fun
  |.cells _ t frozen=>.cells cs t frozen
  |o=>o
 let h1:=put w0.heap 1 (Lib.asciiSpaceTab.map fun z=>Value.int .u8 z).toArray
 let h2:=put h1 3 #[.pointer (some ⟨N+1,0,none⟩)]
 let h3:=put h2 0 (rowT.flatMap fun r=>[Value.int .i64 r.1,Value.int .i64 r.2.1,Value.int .i64 r.2.2]).toArray
 {w0 with heap:=h3}
end Go.Proofs.YtepjanajflkakaaGreatDoor
