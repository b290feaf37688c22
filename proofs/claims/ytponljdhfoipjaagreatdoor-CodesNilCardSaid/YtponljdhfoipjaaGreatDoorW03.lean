import Derived.Test.YtponljdhfoipjaaGreatDoorW01
namespace Go.Proofs.YtponljdhfoipjaaGreatDoor
open Go.RowKit
set_option linter.unusedVariables false
set_option linter.unusedSimpArgs false
set_option maxRecDepth 100000
set_option maxHeartbeats 0
def zI (n:Int):Bool:=decide (n=0)
def zS (s:ByteArray):Bool:=decide (s.size=0)
def zL (l:List Tm):Bool:=decide (l.length=0)
def lastK (l:List Tm):Int:=match l.getLast? with
 |some t=>t.kind
 |none=>0
def lastByte (s:ByteArray):Nat:=(s.data.toList.getLast?.getD 0).toNat
def bitsV (y:ByteArray) (z:Int):Bool:=(wi z 0 16384&&decide ((y.size:Int)=(z+7)/8))&&(decide (z%8=0)||decide (lastByte y%2^(8-z%8).toNat=0))
def bitsB (t:Tm):Bool:=bitsV t.bytes t.bits
def okK (t:Tm):Bool:=
 if t.kind=1 then true
 else if t.kind=2 then nameB t.name
 else if t.kind=3\/t.kind=6 then wi t.int 1 2147483647&&wi t.gen 1 2147483647&&nameB t.name
 else if t.kind=4 then wi t.int 0 999&&wi t.gen 1 2147483647&&nameB t.name&&wi t.arity 0 16&&decide (t.items.length<=200)
 else if t.kind=5 then nameB t.name&&nameB t.func&&wi t.arity 0 16
 else if t.kind=7 then decide (t.items.length<=255)
 else if t.kind=8 then true
 else if t.kind=9 then decide (2<=t.items.length)&&decide (lastK t.items≠9)
 else if t.kind=10 then bitsB t
 else false
def zeroK (t:Tm):Bool:=
 (decide (t.kind=1\/t.kind=3\/t.kind=4\/t.kind=6)||zI t.int) &&
 (decide (t.kind=3\/t.kind=4\/t.kind=6)||zI t.gen) &&
 (decide (t.kind=2\/t.kind=3\/t.kind=4\/t.kind=5\/t.kind=6)||zS t.name) &&
 (decide (t.kind=5)||zS t.func) &&
 (decide (t.kind=4\/t.kind=5)||zI t.arity) &&
 (decide (t.kind=4\/t.kind=7\/t.kind=9)||zL t.items) &&
 (decide (t.kind=10)||zS t.bytes) &&
 (decide (t.kind=10)||zI t.bits)
def locB (t:Tm):Bool:=okK t&&zeroK t
def formF:Nat->Tm->Bool
 |0,_=>false
 |f+1,t=>locB t&&t.items.all (formF f)
def ownSize (t:Tm):Int:=if t.kind=9 then(t.items.length:Int)-1 else if t.kind=10 then 1+(t.bits+63)/64 else 1
def sumI:List Int->Int
 |[]=>0
 |x::l=>x+sumI l
def wholeF:Nat->Tm->Int
 |0,_=>0
 |f+1,t=>ownSize t+sumI (t.items.map (wholeF f))
def validF (f:Nat) (t:Tm):Bool:=formF f t&&decide (wholeF f t<=2000)
theorem twithin_any (n a b:Int) (w:World):
  Calls Tryz.prog 141 #[.int .i64 n,.int .i64 a,.int .i64 b] w fun e w'=>e= .returned (.bool (wi n a b))/\w=w':=by
 by_cases h1:a<=n
 ·by_cases h2:n<=b
  ·have E:=Lib.hid (wi_yes h1 h2)
   have d1:decide (a<=n)=true:=decide_eq_true h1
   have d2:decide (n<=b)=true:=decide_eq_true h2
   go_enter Tryz.func141,Tryz.ntmps141
   go_wp2
   go_ret
   exact⟨retb E.out.symm,rfl⟩
  ·have E:=Lib.hid (wi_no (n:=n) (a:=a) (b:=b) (fun h=>h2 h.2))
   have d1:decide (a<=n)=true:=decide_eq_true h1
   have d2:decide (n<=b)=false:=decide_eq_false h2
   go_enter Tryz.func141,Tryz.ntmps141
   go_wp2
   go_ret
   exact⟨retb E.out.symm,rfl⟩
 ·have E:=Lib.hid (wi_no (n:=n) (a:=a) (b:=b) (fun h=>h1 h.1))
  have d1:decide (a<=n)=false:=decide_eq_false h1
  go_enter Tryz.func141,Tryz.ntmps141
  go_wp2
  go_ret
  exact⟨retb E.out.symm,rfl⟩
def zeroRow:Array Value:=#[.int .i64 0,.int .i64 0,.int .i64 0,.string ⟨#[]⟩,.string ⟨#[]⟩,.int .i64 0,.slice none 0 0,.string ⟨#[]⟩,.int .i64 0]
theorem two0 (w:World) (o p:Obj):((w.alloc o).alloc p).heap[w.heap.size]?=some o:=by
 rw [Below.heap_alloc (w.alloc o) p w.heap.size (by simp)];exact heap_alloc_new _ _
theorem two1 (w:World) (o p:Obj):((w.alloc o).alloc p).heap[w.heap.size+1]?=some p:=by
 have:=heap_alloc_new (w.alloc o) p
 rwa [show(w.alloc o).heap.size=w.heap.size+1 by simp]at this
theorem two_below (w:World) (o p:Obj):Below w.heap.size w ((w.alloc o).alloc p):=(zzE _ _).alloc (by simp) _
theorem term_cells {w:World} {B:Nat} {v0 v1 v2 v3 v4 v5 v6 v7 v8:Value} (h:w.heap[B]?=some (.cells #[v0,v1,v2,v3,v4,v5,v6,v7,v8] 44 (0,0))):
  w.cell? ⟨B,0,none⟩=some v0/\w.cell? ⟨B,1,none⟩=some v1/\w.cell? ⟨B,2,none⟩=some v2/\w.cell? ⟨B,3,none⟩=some v3/\w.cell? ⟨B,4,none⟩=some v4/\w.cell? ⟨B,5,none⟩=some v5/\w.cell? ⟨B,6,none⟩=some v6/\w.cell? ⟨B,7,none⟩=some v7/\w.cell? ⟨B,8,none⟩=some v8 /\
   (w.frozen? ⟨B,0,none⟩=false/\w.frozen? ⟨B,1,none⟩=false/\w.frozen? ⟨B,2,none⟩=false/\w.frozen? ⟨B,3,none⟩=false/\w.frozen? ⟨B,4,none⟩=false/\w.frozen? ⟨B,5,none⟩=false/\w.frozen? ⟨B,6,none⟩=false/\w.frozen? ⟨B,7,none⟩=false/\w.frozen? ⟨B,8,none⟩=false):=by
 have hc:=fun j=>cell_of_row w B j _ _ _ h
 have hf:=fun j=>frozen_of_row w B j _ _ h
 exact⟨hc 0,hc 1,hc 2,hc 3,hc 4,hc 5,hc 6,hc 7,hc 8,hf 0,hf 1,hf 2,hf 3,hf 4,hf 5,hf 6,hf 7,hf 8⟩
theorem set9 {w:World} {B:Nat} (v0 v1 v2 v3 v4 v5 v6 v7 v8:Value) (h:w.heap[B]?=some (.cells zeroRow 44 (0,0))):
  (((((((((w.setCell ⟨B,0,none⟩ v0).setCell ⟨B,1,none⟩ v1).setCell ⟨B,2,none⟩ v2).setCell ⟨B,3,none⟩ v3).setCell ⟨B,4,none⟩ v4).setCell ⟨B,5,none⟩ v5).setCell ⟨B,6,none⟩ v6).setCell ⟨B,7,none⟩ v7).setCell ⟨B,8,none⟩ v8).heap[B]?=some (.cells #[v0,v1,v2,v3,v4,v5,v6,v7,v8] 44 (0,0)):=by
 have h0:(w.setCell ⟨B,0,none⟩ v0).heap[B]?=some (.cells #[v0,.int .i64 0,.int .i64 0,.string ⟨#[]⟩,.string ⟨#[]⟩,.int .i64 0,.slice none 0 0,.string ⟨#[]⟩,.int .i64 0] 44 (0,0)):=heap_setCell_same _ _ 0 _ _ v0 h
 have h1:((w.setCell ⟨B,0,none⟩ v0).setCell ⟨B,1,none⟩ v1).heap[B]?=some (.cells #[v0,v1,.int .i64 0,.string ⟨#[]⟩,.string ⟨#[]⟩,.int .i64 0,.slice none 0 0,.string ⟨#[]⟩,.int .i64 0] 44 (0,0)):=heap_setCell_same _ _ 1 _ _ v1 h0
 have h2:(((w.setCell ⟨B,0,none⟩ v0).setCell ⟨B,1,none⟩ v1).setCell ⟨B,2,none⟩ v2).heap[B]?=some (.cells #[v0,v1,v2,.string ⟨#[]⟩,.string ⟨#[]⟩,.int .i64 0,.slice none 0 0,.string ⟨#[]⟩,.int .i64 0] 44 (0,0)):=heap_setCell_same _ _ 2 _ _ v2 h1
 have h3:((((w.setCell ⟨B,0,none⟩ v0).setCell ⟨B,1,none⟩ v1).setCell ⟨B,2,none⟩ v2).setCell ⟨B,3,none⟩ v3).heap[B]?=some (.cells #[v0,v1,v2,v3,.string ⟨#[]⟩,.int .i64 0,.slice none 0 0,.string ⟨#[]⟩,.int .i64 0] 44 (0,0)):=heap_setCell_same _ _ 3 _ _ v3 h2
 have h4:(((((w.setCell ⟨B,0,none⟩ v0).setCell ⟨B,1,none⟩ v1).setCell ⟨B,2,none⟩ v2).setCell ⟨B,3,none⟩ v3).setCell ⟨B,4,none⟩ v4).heap[B]?=some (.cells #[v0,v1,v2,v3,v4,.int .i64 0,.slice none 0 0,.string ⟨#[]⟩,.int .i64 0] 44 (0,0)):=heap_setCell_same _ _ 4 _ _ v4 h3
 have h5:((((((w.setCell ⟨B,0,none⟩ v0).setCell ⟨B,1,none⟩ v1).setCell ⟨B,2,none⟩ v2).setCell ⟨B,3,none⟩ v3).setCell ⟨B,4,none⟩ v4).setCell ⟨B,5,none⟩ v5).heap[B]?=some (.cells #[v0,v1,v2,v3,v4,v5,.slice none 0 0,.string ⟨#[]⟩,.int .i64 0] 44 (0,0)):=heap_setCell_same _ _ 5 _ _ v5 h4
 have h6:(((((((w.setCell ⟨B,0,none⟩ v0).setCell ⟨B,1,none⟩ v1).setCell ⟨B,2,none⟩ v2).setCell ⟨B,3,none⟩ v3).setCell ⟨B,4,none⟩ v4).setCell ⟨B,5,none⟩ v5).setCell ⟨B,6,none⟩ v6).heap[B]?=some (.cells #[v0,v1,v2,v3,v4,v5,v6,.string ⟨#[]⟩,.int .i64 0] 44 (0,0)):=heap_setCell_same _ _ 6 _ _ v6 h5
 have h7:((((((((w.setCell ⟨B,0,none⟩ v0).setCell ⟨B,1,none⟩ v1).setCell ⟨B,2,none⟩ v2).setCell ⟨B,3,none⟩ v3).setCell ⟨B,4,none⟩ v4).setCell ⟨B,5,none⟩ v5).setCell ⟨B,6,none⟩ v6).setCell ⟨B,7,none⟩ v7).heap[B]?=some (.cells #[v0,v1,v2,v3,v4,v5,v6,v7,.int .i64 0] 44 (0,0)):=heap_setCell_same _ _ 7 _ _ v7 h6
 have h8:(((((((((w.setCell ⟨B,0,none⟩ v0).setCell ⟨B,1,none⟩ v1).setCell ⟨B,2,none⟩ v2).setCell ⟨B,3,none⟩ v3).setCell ⟨B,4,none⟩ v4).setCell ⟨B,5,none⟩ v5).setCell ⟨B,6,none⟩ v6).setCell ⟨B,7,none⟩ v7).setCell ⟨B,8,none⟩ v8).heap[B]?=some (.cells #[v0,v1,v2,v3,v4,v5,v6,v7,v8] 44 (0,0)):=heap_setCell_same _ _ 8 _ _ v8 h7
 exact h8
theorem below9 {w0 w:World} {B C:Nat} (hBC:B<=C) (h:Below B w0 w) (v0 v1 v2 v3 v4 v5 v6 v7 v8:Value):
  Below B w0 (((((((((w.setCell ⟨C,0,none⟩ v0).setCell ⟨C,1,none⟩ v1).setCell ⟨C,2,none⟩ v2).setCell ⟨C,3,none⟩ v3).setCell ⟨C,4,none⟩ v4).setCell ⟨C,5,none⟩ v5).setCell ⟨C,6,none⟩ v6).setCell ⟨C,7,none⟩ v7).setCell ⟨C,8,none⟩ v8):=
 ((((((((h.setCell hBC _).setCell hBC _).setCell hBC _).setCell hBC _).setCell hBC _).setCell hBC _).setCell hBC _).setCell hBC _).setCell hBC _
section
variable (k i g:Int) (n f:ByteArray) (a:Int) (so:Option Addr) (l c:Nat) (y:ByteArray) (z:Int) (w:World)
theorem kind_none:Calls Tryz.prog 142 #[.agg #[.int .i64 k,.int .i64 i,.int .i64 g,.string n,.string f,.int .i64 a,.slice so l c,.string y,.int .i64 z]] w fun e w'=>
  e= .returned (.tuple #[.agg #[.int .i64 k,.int .i64 i,.int .i64 g,.string n,.string f,.int .i64 a,.slice so l c,.string y,.int .i64 z],.bool (false)])/\Below w.heap.size w w':=by
 go_enter Tryz.func142,Tryz.ntmps142
 go_wp2_with fail
 exact bodyPost_ret (v:=.tuple #[.agg #[.int .i64 k,.int .i64 i,.int .i64 g,.string n,.string f,.int .i64 a,.slice so l c,.string y,.int .i64 z],.bool (false)]) (by simp [results,Tryz.results142,go_sem]) rfl ⟨rfl,two_below _ _ _⟩
theorem kind_int:Calls Tryz.prog 143 #[.agg #[.int .i64 k,.int .i64 i,.int .i64 g,.string n,.string f,.int .i64 a,.slice so l c,.string y,.int .i64 z]] w fun e w'=>
  e= .returned (.tuple #[.agg #[.int .i64 k,.int .i64 0,.int .i64 g,.string n,.string f,.int .i64 a,.slice so l c,.string y,.int .i64 z],.bool (true)])/\Below w.heap.size w w':=by
 go_enter Tryz.func143,Tryz.ntmps143
 go_wp2_with fail
 exact bodyPost_ret (v:=.tuple #[.agg #[.int .i64 k,.int .i64 0,.int .i64 g,.string n,.string f,.int .i64 a,.slice so l c,.string y,.int .i64 z],.bool (true)]) (by simp [results,Tryz.results143,go_sem]) rfl ⟨rfl,two_below _ _ _⟩
theorem kind_nil:Calls Tryz.prog 148 #[.agg #[.int .i64 k,.int .i64 i,.int .i64 g,.string n,.string f,.int .i64 a,.slice so l c,.string y,.int .i64 z]] w fun e w'=>
  e= .returned (.tuple #[.agg #[.int .i64 k,.int .i64 i,.int .i64 g,.string n,.string f,.int .i64 a,.slice so l c,.string y,.int .i64 z],.bool (true)])/\Below w.heap.size w w':=by
 go_enter Tryz.func148,Tryz.ntmps148
 go_wp2_with fail
 exact bodyPost_ret (v:=.tuple #[.agg #[.int .i64 k,.int .i64 i,.int .i64 g,.string n,.string f,.int .i64 a,.slice so l c,.string y,.int .i64 z],.bool (true)]) (by simp [results,Tryz.results148,go_sem]) rfl ⟨rfl,two_below _ _ _⟩
theorem kind_num:Calls Tryz.prog 140 #[.agg #[.int .i64 k,.int .i64 i,.int .i64 g,.string n,.string f,.int .i64 a,.slice so l c,.string y,.int .i64 z]] w fun e w'=>
  e= .returned (.tuple #[.agg #[.int .i64 k,.int .i64 0,.int .i64 0,.string ⟨#[]⟩,.string f,.int .i64 a,.slice so l c,.string y,.int .i64 z],.bool (wi i 1 2147483647&&wi g 1 2147483647&&nameB n)])/\Below w.heap.size w w':=by
 have h0:=fun wx=>twithin_any i 1 2147483647 wx
 have h1:=fun wx=>twithin_any g 1 2147483647 wx
 have h2:=fun wx=>names_any n wx
 generalize wi i 1 2147483647=b0 at *
 generalize wi g 1 2147483647=b1 at *
 generalize nameB n=b2 at *
 cases b0 with
 |false=>
  go_enter Tryz.func140,Tryz.ntmps140
  go_wp2_with (go_at_call 141;first|((with_reducible refine(h0 _).mono ?_);rintro e w1 ⟨rfl,rfl⟩)|((with_reducible refine(h1 _).mono ?_);rintro e w1 ⟨rfl,rfl⟩))
  exact bodyPost_ret (v:=.tuple #[.agg #[.int .i64 k,.int .i64 0,.int .i64 0,.string ⟨#[]⟩,.string f,.int .i64 a,.slice so l c,.string y,.int .i64 z],.bool (false)]) (by simp [results,Tryz.results140,go_sem]) rfl ⟨rfl,two_below _ _ _⟩
 |true=>
  cases b1 with
  |false=>
   go_enter Tryz.func140,Tryz.ntmps140
   go_wp2_with (go_at_call 141;first|((with_reducible refine(h0 _).mono ?_);rintro e w1 ⟨rfl,rfl⟩)|((with_reducible refine(h1 _).mono ?_);rintro e w1 ⟨rfl,rfl⟩))
   exact bodyPost_ret (v:=.tuple #[.agg #[.int .i64 k,.int .i64 0,.int .i64 0,.string ⟨#[]⟩,.string f,.int .i64 a,.slice so l c,.string y,.int .i64 z],.bool (false)]) (by simp [results,Tryz.results140,go_sem]) rfl ⟨rfl,two_below _ _ _⟩
  |true=>
   go_enter Tryz.func140,Tryz.ntmps140
   go_wp2_with (go_at_call 141;first|((with_reducible refine(h0 _).mono ?_);rintro e w1 ⟨rfl,rfl⟩)|((with_reducible refine(h1 _).mono ?_);rintro e w1 ⟨rfl,rfl⟩))
   refine(h2 _).mono ?_
   rintro e w7 ⟨rfl,hb5⟩
   have r0:w7.heap[w.heap.size]?=some (.cells #[.int .i64 k,.int .i64 i,.int .i64 g,.string n,.string f,.int .i64 a,.slice so l c,.string y,.int .i64 z] 44 (0,0)):=(hb5.block _ (by simp;omega)).trans (two0 _ _ _)
   have r1:w7.heap[w.heap.size+1]?=some (.cells zeroRow 44 (0,0)):=(hb5.block _ (by simp)).trans (two1 _ _ _)
   have hB:Below w.heap.size w w7:=(two_below _ _ _).trans (hb5.mono (by simp;omega))
   clear hb5
   generalize hBe:w.heap.size=B at *
   have HBE:=Lib.hid hBe
   clear hBe
   obtain⟨q0,q1,q2,q3,q4,q5,q6,q7,q8,z0⟩:=term_cells r0
   go_upto_region 3 with(go_at_call 141;first|((with_reducible refine(h0 _).mono ?_);rintro e w1 ⟨rfl,rfl⟩)|((with_reducible refine(h1 _).mono ?_);rintro e w1 ⟨rfl,rfl⟩))
   have r0':(((w7.setCell ⟨B,1,none⟩ (.int .i64 0)).setCell ⟨B,2,none⟩ (.int .i64 0)).setCell ⟨B,3,none⟩ (.string ⟨#[]⟩)).heap[B]?=some (.cells #[.int .i64 k,.int .i64 0,.int .i64 0,.string ⟨#[]⟩,.string f,.int .i64 a,.slice so l c,.string y,.int .i64 z] 44 (0,0)):=(heap_setCell_same _ _ 3 _ _ (.string ⟨#[]⟩) (heap_setCell_same _ _ 2 _ _ (.int .i64 0) (heap_setCell_same _ _ 1 _ _ (.int .i64 0) r0)))
   have r1':(((w7.setCell ⟨B,1,none⟩ (.int .i64 0)).setCell ⟨B,2,none⟩ (.int .i64 0)).setCell ⟨B,3,none⟩ (.string ⟨#[]⟩)).heap[B+1]?=some (.cells zeroRow 44 (0,0)):=((heap_setCell_other _ _ _ _ (by simp)).trans ((heap_setCell_other _ _ _ _ (by simp)).trans ((heap_setCell_other _ _ _ _ (by simp)).trans r1)))
   have hB':Below B w (((w7.setCell ⟨B,1,none⟩ (.int .i64 0)).setCell ⟨B,2,none⟩ (.int .i64 0)).setCell ⟨B,3,none⟩ (.string ⟨#[]⟩)):=(((hB.setCell (Nat.le_refl _) _).setCell (Nat.le_refl _) _).setCell (Nat.le_refl _) _)
   clear q0 q1 q2 q3 q4 q5 q6 q7 q8 z0 r0 r1 hB
   generalize(((w7.setCell ⟨B,1,none⟩ (.int .i64 0)).setCell ⟨B,2,none⟩ (.int .i64 0)).setCell ⟨B,3,none⟩ (.string ⟨#[]⟩))=w9 at *
   obtain⟨q0,q1,q2,q3,q4,q5,q6,q7,q8,z0⟩:=term_cells r0'
   obtain⟨p0,p1,p2,p3,p4,p5,p6,p7,p8,z1⟩:=term_cells r1'
   go_wp2_with fail
   refine bodyPost_ret (results_row_tmp rfl _ _ _ (B+1) _ _ _ _ rfl (set9 _ _ _ _ _ _ _ _ _ r1') Tryz.underlying44 (by kernel_rfl)) rfl ?_
   exact⟨rfl,by rw [HBE.out];exact below9 (Nat.le_succ _) hB' _ _ _ _ _ _ _ _ _⟩
theorem kind_atom:Calls Tryz.prog 144 #[.agg #[.int .i64 k,.int .i64 i,.int .i64 g,.string n,.string f,.int .i64 a,.slice so l c,.string y,.int .i64 z]] w fun e w'=>
  e= .returned (.tuple #[.agg #[.int .i64 k,.int .i64 i,.int .i64 g,.string ⟨#[]⟩,.string f,.int .i64 a,.slice so l c,.string y,.int .i64 z],.bool (nameB n)])/\Below w.heap.size w w':=by
 have h0:=fun wx=>names_any n wx
 generalize nameB n=b0 at *
 go_enter Tryz.func144,Tryz.ntmps144
 go_wp2_with fail
 refine(h0 _).mono ?_
 rintro e w5 ⟨rfl,hb5⟩
 have r0:w5.heap[w.heap.size]?=some (.cells #[.int .i64 k,.int .i64 i,.int .i64 g,.string n,.string f,.int .i64 a,.slice so l c,.string y,.int .i64 z] 44 (0,0)):=(hb5.block _ (by simp;omega)).trans (two0 _ _ _)
 have r1:w5.heap[w.heap.size+1]?=some (.cells zeroRow 44 (0,0)):=(hb5.block _ (by simp)).trans (two1 _ _ _)
 have hB:Below w.heap.size w w5:=(two_below _ _ _).trans (hb5.mono (by simp;omega))
 clear hb5
 generalize hBe:w.heap.size=B at *
 have HBE:=Lib.hid hBe
 clear hBe
 obtain⟨q0,q1,q2,q3,q4,q5,q6,q7,q8,z0⟩:=term_cells r0
 go_upto_region 3 with fail
 have r0':(w5.setCell ⟨B,3,none⟩ (.string ⟨#[]⟩)).heap[B]?=some (.cells #[.int .i64 k,.int .i64 i,.int .i64 g,.string ⟨#[]⟩,.string f,.int .i64 a,.slice so l c,.string y,.int .i64 z] 44 (0,0)):=(heap_setCell_same _ _ 3 _ _ (.string ⟨#[]⟩) r0)
 have r1':(w5.setCell ⟨B,3,none⟩ (.string ⟨#[]⟩)).heap[B+1]?=some (.cells zeroRow 44 (0,0)):=((heap_setCell_other _ _ _ _ (by simp)).trans r1)
 have hB':Below B w (w5.setCell ⟨B,3,none⟩ (.string ⟨#[]⟩)):=(hB.setCell (Nat.le_refl _) _)
 clear q0 q1 q2 q3 q4 q5 q6 q7 q8 z0 r0 r1 hB
 generalize(w5.setCell ⟨B,3,none⟩ (.string ⟨#[]⟩))=w9 at *
 obtain⟨q0,q1,q2,q3,q4,q5,q6,q7,q8,z0⟩:=term_cells r0'
 obtain⟨p0,p1,p2,p3,p4,p5,p6,p7,p8,z1⟩:=term_cells r1'
 go_wp2_with fail
 refine bodyPost_ret (results_row_tmp rfl _ _ _ (B+1) _ _ _ _ rfl (set9 _ _ _ _ _ _ _ _ _ r1') Tryz.underlying44 (by kernel_rfl)) rfl ?_
 exact⟨rfl,by rw [HBE.out];exact below9 (Nat.le_succ _) hB' _ _ _ _ _ _ _ _ _⟩
theorem kind_export:Calls Tryz.prog 146 #[.agg #[.int .i64 k,.int .i64 i,.int .i64 g,.string n,.string f,.int .i64 a,.slice so l c,.string y,.int .i64 z]] w fun e w'=>
  e= .returned (.tuple #[.agg #[.int .i64 k,.int .i64 i,.int .i64 g,.string ⟨#[]⟩,.string ⟨#[]⟩,.int .i64 0,.slice so l c,.string y,.int .i64 z],.bool (nameB n&&nameB f&&wi a 0 16)])/\Below w.heap.size w w':=by
 have h0:=fun wx=>names_any n wx
 have h1:=fun wx=>names_any f wx
 have h2:=fun wx=>twithin_any a 0 16 wx
 generalize nameB n=b0 at *
 generalize nameB f=b1 at *
 generalize wi a 0 16=b2 at *
 go_enter Tryz.func146,Tryz.ntmps146
 go_wp2_with (go_at_call 141;first|((with_reducible refine(h2 _).mono ?_);rintro e w1 ⟨rfl,rfl⟩))
 refine(h0 _).mono ?_
 rintro e w5 ⟨rfl,hb5⟩
 have r0:w5.heap[w.heap.size]?=some (.cells #[.int .i64 k,.int .i64 i,.int .i64 g,.string n,.string f,.int .i64 a,.slice so l c,.string y,.int .i64 z] 44 (0,0)):=(hb5.block _ (by simp;omega)).trans (two0 _ _ _)
 have r1:w5.heap[w.heap.size+1]?=some (.cells zeroRow 44 (0,0)):=(hb5.block _ (by simp)).trans (two1 _ _ _)
 have hB:Below w.heap.size w w5:=(two_below _ _ _).trans (hb5.mono (by simp;omega))
 clear hb5
 generalize hBe:w.heap.size=B at *
 have HBE:=Lib.hid hBe
 clear hBe
 obtain⟨q0,q1,q2,q3,q4,q5,q6,q7,q8,z0⟩:=term_cells r0
 cases b0 with
 |false=>
  go_upto_region 3 with(go_at_call 141;first|((with_reducible refine(h2 _).mono ?_);rintro e w1 ⟨rfl,rfl⟩))
  have r0':(((w5.setCell ⟨B,3,none⟩ (.string ⟨#[]⟩)).setCell ⟨B,4,none⟩ (.string ⟨#[]⟩)).setCell ⟨B,5,none⟩ (.int .i64 0)).heap[B]?=some (.cells #[.int .i64 k,.int .i64 i,.int .i64 g,.string ⟨#[]⟩,.string ⟨#[]⟩,.int .i64 0,.slice so l c,.string y,.int .i64 z] 44 (0,0)):=(heap_setCell_same _ _ 5 _ _ (.int .i64 0) (heap_setCell_same _ _ 4 _ _ (.string ⟨#[]⟩) (heap_setCell_same _ _ 3 _ _ (.string ⟨#[]⟩) r0)))
  have r1':(((w5.setCell ⟨B,3,none⟩ (.string ⟨#[]⟩)).setCell ⟨B,4,none⟩ (.string ⟨#[]⟩)).setCell ⟨B,5,none⟩ (.int .i64 0)).heap[B+1]?=some (.cells zeroRow 44 (0,0)):=((heap_setCell_other _ _ _ _ (by simp)).trans ((heap_setCell_other _ _ _ _ (by simp)).trans ((heap_setCell_other _ _ _ _ (by simp)).trans r1)))
  have hB':Below B w (((w5.setCell ⟨B,3,none⟩ (.string ⟨#[]⟩)).setCell ⟨B,4,none⟩ (.string ⟨#[]⟩)).setCell ⟨B,5,none⟩ (.int .i64 0)):=(((hB.setCell (Nat.le_refl _) _).setCell (Nat.le_refl _) _).setCell (Nat.le_refl _) _)
  clear q0 q1 q2 q3 q4 q5 q6 q7 q8 z0 r0 r1 hB
  generalize(((w5.setCell ⟨B,3,none⟩ (.string ⟨#[]⟩)).setCell ⟨B,4,none⟩ (.string ⟨#[]⟩)).setCell ⟨B,5,none⟩ (.int .i64 0))=w9 at *
  obtain⟨q0,q1,q2,q3,q4,q5,q6,q7,q8,z0⟩:=term_cells r0'
  obtain⟨p0,p1,p2,p3,p4,p5,p6,p7,p8,z1⟩:=term_cells r1'
  go_wp2_with fail
  refine bodyPost_ret (results_row_tmp rfl _ _ _ (B+1) _ _ _ _ rfl (set9 _ _ _ _ _ _ _ _ _ r1') Tryz.underlying44 (by kernel_rfl)) rfl ?_
  exact⟨rfl,by rw [HBE.out];exact below9 (Nat.le_succ _) hB' _ _ _ _ _ _ _ _ _⟩
 |true=>
  go_wp2_with (go_at_call 141;first|((with_reducible refine(h2 _).mono ?_);rintro e w1 ⟨rfl,rfl⟩))
  refine(h1 _).mono ?_
  rintro e w6 ⟨rfl,hb5⟩
  have r0n:=(hb5.block B (lt_of_row r0)).trans r0
  have r1n:=(hb5.block (B+1) (lt_of_row r1)).trans r1
  have hBn:Below B w w6:=hB.trans (hb5.mono (Nat.le_of_lt (lt_of_row r0)))
  clear hb5 r0 r1 hB q0 q1 q2 q3 q4 q5 q6 q7 q8 z0
  have r0:=r0n
  have r1:=r1n
  have hB:=hBn
  clear r0n r1n hBn
  obtain⟨q0,q1,q2,q3,q4,q5,q6,q7,q8,z0⟩:=term_cells r0
  cases b1 with
  |false=>
   go_upto_region 3 with(go_at_call 141;first|((with_reducible refine(h2 _).mono ?_);rintro e w1 ⟨rfl,rfl⟩))
   have r0':(((w6.setCell ⟨B,3,none⟩ (.string ⟨#[]⟩)).setCell ⟨B,4,none⟩ (.string ⟨#[]⟩)).setCell ⟨B,5,none⟩ (.int .i64 0)).heap[B]?=some (.cells #[.int .i64 k,.int .i64 i,.int .i64 g,.string ⟨#[]⟩,.string ⟨#[]⟩,.int .i64 0,.slice so l c,.string y,.int .i64 z] 44 (0,0)):=(heap_setCell_same _ _ 5 _ _ (.int .i64 0) (heap_setCell_same _ _ 4 _ _ (.string ⟨#[]⟩) (heap_setCell_same _ _ 3 _ _ (.string ⟨#[]⟩) r0)))
   have r1':(((w6.setCell ⟨B,3,none⟩ (.string ⟨#[]⟩)).setCell ⟨B,4,none⟩ (.string ⟨#[]⟩)).setCell ⟨B,5,none⟩ (.int .i64 0)).heap[B+1]?=some (.cells zeroRow 44 (0,0)):=((heap_setCell_other _ _ _ _ (by simp)).trans ((heap_setCell_other _ _ _ _ (by simp)).trans ((heap_setCell_other _ _ _ _ (by simp)).trans r1)))
   have hB':Below B w (((w6.setCell ⟨B,3,none⟩ (.string ⟨#[]⟩)).setCell ⟨B,4,none⟩ (.string ⟨#[]⟩)).setCell ⟨B,5,none⟩ (.int .i64 0)):=(((hB.setCell (Nat.le_refl _) _).setCell (Nat.le_refl _) _).setCell (Nat.le_refl _) _)
   clear q0 q1 q2 q3 q4 q5 q6 q7 q8 z0 r0 r1 hB
   generalize(((w6.setCell ⟨B,3,none⟩ (.string ⟨#[]⟩)).setCell ⟨B,4,none⟩ (.string ⟨#[]⟩)).setCell ⟨B,5,none⟩ (.int .i64 0))=w9 at *
   obtain⟨q0,q1,q2,q3,q4,q5,q6,q7,q8,z0⟩:=term_cells r0'
   obtain⟨p0,p1,p2,p3,p4,p5,p6,p7,p8,z1⟩:=term_cells r1'
   go_wp2_with fail
   refine bodyPost_ret (results_row_tmp rfl _ _ _ (B+1) _ _ _ _ rfl (set9 _ _ _ _ _ _ _ _ _ r1') Tryz.underlying44 (by kernel_rfl)) rfl ?_
   exact⟨rfl,by rw [HBE.out];exact below9 (Nat.le_succ _) hB' _ _ _ _ _ _ _ _ _⟩
  |true=>
   cases b2 with
   |false=>
    go_upto_region 3 with(go_at_call 141;first|((with_reducible refine(h2 _).mono ?_);rintro e w1 ⟨rfl,rfl⟩))
    have r0':(((w6.setCell ⟨B,3,none⟩ (.string ⟨#[]⟩)).setCell ⟨B,4,none⟩ (.string ⟨#[]⟩)).setCell ⟨B,5,none⟩ (.int .i64 0)).heap[B]?=some (.cells #[.int .i64 k,.int .i64 i,.int .i64 g,.string ⟨#[]⟩,.string ⟨#[]⟩,.int .i64 0,.slice so l c,.string y,.int .i64 z] 44 (0,0)):=(heap_setCell_same _ _ 5 _ _ (.int .i64 0) (heap_setCell_same _ _ 4 _ _ (.string ⟨#[]⟩) (heap_setCell_same _ _ 3 _ _ (.string ⟨#[]⟩) r0)))
    have r1':(((w6.setCell ⟨B,3,none⟩ (.string ⟨#[]⟩)).setCell ⟨B,4,none⟩ (.string ⟨#[]⟩)).setCell ⟨B,5,none⟩ (.int .i64 0)).heap[B+1]?=some (.cells zeroRow 44 (0,0)):=((heap_setCell_other _ _ _ _ (by simp)).trans ((heap_setCell_other _ _ _ _ (by simp)).trans ((heap_setCell_other _ _ _ _ (by simp)).trans r1)))
    have hB':Below B w (((w6.setCell ⟨B,3,none⟩ (.string ⟨#[]⟩)).setCell ⟨B,4,none⟩ (.string ⟨#[]⟩)).setCell ⟨B,5,none⟩ (.int .i64 0)):=(((hB.setCell (Nat.le_refl _) _).setCell (Nat.le_refl _) _).setCell (Nat.le_refl _) _)
    clear q0 q1 q2 q3 q4 q5 q6 q7 q8 z0 r0 r1 hB
    generalize(((w6.setCell ⟨B,3,none⟩ (.string ⟨#[]⟩)).setCell ⟨B,4,none⟩ (.string ⟨#[]⟩)).setCell ⟨B,5,none⟩ (.int .i64 0))=w9 at *
    obtain⟨q0,q1,q2,q3,q4,q5,q6,q7,q8,z0⟩:=term_cells r0'
    obtain⟨p0,p1,p2,p3,p4,p5,p6,p7,p8,z1⟩:=term_cells r1'
    go_wp2_with fail
    refine bodyPost_ret (results_row_tmp rfl _ _ _ (B+1) _ _ _ _ rfl (set9 _ _ _ _ _ _ _ _ _ r1') Tryz.underlying44 (by kernel_rfl)) rfl ?_
    exact⟨rfl,by rw [HBE.out];exact below9 (Nat.le_succ _) hB' _ _ _ _ _ _ _ _ _⟩
   |true=>
    go_upto_region 3 with(go_at_call 141;first|((with_reducible refine(h2 _).mono ?_);rintro e w1 ⟨rfl,rfl⟩))
    have r0':(((w6.setCell ⟨B,3,none⟩ (.string ⟨#[]⟩)).setCell ⟨B,4,none⟩ (.string ⟨#[]⟩)).setCell ⟨B,5,none⟩ (.int .i64 0)).heap[B]?=some (.cells #[.int .i64 k,.int .i64 i,.int .i64 g,.string ⟨#[]⟩,.string ⟨#[]⟩,.int .i64 0,.slice so l c,.string y,.int .i64 z] 44 (0,0)):=(heap_setCell_same _ _ 5 _ _ (.int .i64 0) (heap_setCell_same _ _ 4 _ _ (.string ⟨#[]⟩) (heap_setCell_same _ _ 3 _ _ (.string ⟨#[]⟩) r0)))
    have r1':(((w6.setCell ⟨B,3,none⟩ (.string ⟨#[]⟩)).setCell ⟨B,4,none⟩ (.string ⟨#[]⟩)).setCell ⟨B,5,none⟩ (.int .i64 0)).heap[B+1]?=some (.cells zeroRow 44 (0,0)):=((heap_setCell_other _ _ _ _ (by simp)).trans ((heap_setCell_other _ _ _ _ (by simp)).trans ((heap_setCell_other _ _ _ _ (by simp)).trans r1)))
    have hB':Below B w (((w6.setCell ⟨B,3,none⟩ (.string ⟨#[]⟩)).setCell ⟨B,4,none⟩ (.string ⟨#[]⟩)).setCell ⟨B,5,none⟩ (.int .i64 0)):=(((hB.setCell (Nat.le_refl _) _).setCell (Nat.le_refl _) _).setCell (Nat.le_refl _) _)
    clear q0 q1 q2 q3 q4 q5 q6 q7 q8 z0 r0 r1 hB
    generalize(((w6.setCell ⟨B,3,none⟩ (.string ⟨#[]⟩)).setCell ⟨B,4,none⟩ (.string ⟨#[]⟩)).setCell ⟨B,5,none⟩ (.int .i64 0))=w9 at *
    obtain⟨q0,q1,q2,q3,q4,q5,q6,q7,q8,z0⟩:=term_cells r0'
    obtain⟨p0,p1,p2,p3,p4,p5,p6,p7,p8,z1⟩:=term_cells r1'
    go_wp2_with fail
    refine bodyPost_ret (results_row_tmp rfl _ _ _ (B+1) _ _ _ _ rfl (set9 _ _ _ _ _ _ _ _ _ r1') Tryz.underlying44 (by kernel_rfl)) rfl ?_
    exact⟨rfl,by rw [HBE.out];exact below9 (Nat.le_succ _) hB' _ _ _ _ _ _ _ _ _⟩
theorem kind_tuple:Calls Tryz.prog 147 #[.agg #[.int .i64 k,.int .i64 i,.int .i64 g,.string n,.string f,.int .i64 a,.slice so l c,.string y,.int .i64 z]] w fun e w'=>
  e= .returned (.tuple #[.agg #[.int .i64 k,.int .i64 i,.int .i64 g,.string n,.string f,.int .i64 a,.slice none 0 0,.string y,.int .i64 z],.bool (decide ((l:Int)<=255))])/\Below w.heap.size w w':=by
 cases hp:decide ((l:Int)<=255)with
 |false=>
  go_enter Tryz.func147,Tryz.ntmps147
  go_wp2_with fail
  exact bodyPost_ret (v:=.tuple #[.agg #[.int .i64 k,.int .i64 i,.int .i64 g,.string n,.string f,.int .i64 a,.slice none 0 0,.string y,.int .i64 z],.bool (false)]) (by simp [results,Tryz.results147,go_sem]) rfl ⟨rfl,two_below _ _ _⟩
 |true=>
  go_enter Tryz.func147,Tryz.ntmps147
  go_wp2_with fail
  exact bodyPost_ret (v:=.tuple #[.agg #[.int .i64 k,.int .i64 i,.int .i64 g,.string n,.string f,.int .i64 a,.slice none 0 0,.string y,.int .i64 z],.bool (true)]) (by simp [results,Tryz.results147,go_sem]) rfl ⟨rfl,two_below _ _ _⟩
theorem kind_closure:Calls Tryz.prog 145 #[.agg #[.int .i64 k,.int .i64 i,.int .i64 g,.string n,.string f,.int .i64 a,.slice so l c,.string y,.int .i64 z]] w fun e w'=>
  e= .returned (.tuple #[.agg #[.int .i64 k,.int .i64 0,.int .i64 0,.string ⟨#[]⟩,.string f,.int .i64 0,.slice none 0 0,.string y,.int .i64 z],.bool (wi i 0 999&&wi g 1 2147483647&&nameB n&&wi a 0 16&&decide ((l:Int)<=200))])/\Below w.heap.size w w':=by
 have h0:=fun wx=>twithin_any i 0 999 wx
 have h1:=fun wx=>twithin_any g 1 2147483647 wx
 have h2:=fun wx=>names_any n wx
 have h3:=fun wx=>twithin_any a 0 16 wx
 generalize wi i 0 999=b0 at *
 generalize wi g 1 2147483647=b1 at *
 generalize nameB n=b2 at *
 generalize wi a 0 16=b3 at *
 cases hp:decide ((l:Int)<=200)with
 |false=>
  cases b0 with
  |false=>
   go_enter Tryz.func145,Tryz.ntmps145
   go_wp2_with (go_at_call 141;first|((with_reducible refine(h0 _).mono ?_);rintro e w1 ⟨rfl,rfl⟩)|((with_reducible refine(h1 _).mono ?_);rintro e w1 ⟨rfl,rfl⟩)|((with_reducible refine(h3 _).mono ?_);rintro e w1 ⟨rfl,rfl⟩))
   exact bodyPost_ret (v:=.tuple #[.agg #[.int .i64 k,.int .i64 0,.int .i64 0,.string ⟨#[]⟩,.string f,.int .i64 0,.slice none 0 0,.string y,.int .i64 z],.bool (false)]) (by simp [results,Tryz.results145,go_sem]) rfl ⟨rfl,two_below _ _ _⟩
  |true=>
   cases b1 with
   |false=>
    go_enter Tryz.func145,Tryz.ntmps145
    go_wp2_with (go_at_call 141;first|((with_reducible refine(h0 _).mono ?_);rintro e w1 ⟨rfl,rfl⟩)|((with_reducible refine(h1 _).mono ?_);rintro e w1 ⟨rfl,rfl⟩)|((with_reducible refine(h3 _).mono ?_);rintro e w1 ⟨rfl,rfl⟩))
    exact bodyPost_ret (v:=.tuple #[.agg #[.int .i64 k,.int .i64 0,.int .i64 0,.string ⟨#[]⟩,.string f,.int .i64 0,.slice none 0 0,.string y,.int .i64 z],.bool (false)]) (by simp [results,Tryz.results145,go_sem]) rfl ⟨rfl,two_below _ _ _⟩
   |true=>
    go_enter Tryz.func145,Tryz.ntmps145
    go_wp2_with (go_at_call 141;first|((with_reducible refine(h0 _).mono ?_);rintro e w1 ⟨rfl,rfl⟩)|((with_reducible refine(h1 _).mono ?_);rintro e w1 ⟨rfl,rfl⟩)|((with_reducible refine(h3 _).mono ?_);rintro e w1 ⟨rfl,rfl⟩))
    refine(h2 _).mono ?_
    rintro e w7 ⟨rfl,hb5⟩
    have r0:w7.heap[w.heap.size]?=some (.cells #[.int .i64 k,.int .i64 i,.int .i64 g,.string n,.string f,.int .i64 a,.slice so l c,.string y,.int .i64 z] 44 (0,0)):=(hb5.block _ (by simp;omega)).trans (two0 _ _ _)
    have r1:w7.heap[w.heap.size+1]?=some (.cells zeroRow 44 (0,0)):=(hb5.block _ (by simp)).trans (two1 _ _ _)
    have hB:Below w.heap.size w w7:=(two_below _ _ _).trans (hb5.mono (by simp;omega))
    clear hb5
    generalize hBe:w.heap.size=B at *
    have HBE:=Lib.hid hBe
    clear hBe
    obtain⟨q0,q1,q2,q3,q4,q5,q6,q7,q8,z0⟩:=term_cells r0
    cases b2 with
    |false=>
     go_upto_region 3 with(go_at_call 141;first|((with_reducible refine(h0 _).mono ?_);rintro e w1 ⟨rfl,rfl⟩)|((with_reducible refine(h1 _).mono ?_);rintro e w1 ⟨rfl,rfl⟩)|((with_reducible refine(h3 _).mono ?_);rintro e w1 ⟨rfl,rfl⟩))
     have r0':(((((w7.setCell ⟨B,1,none⟩ (.int .i64 0)).setCell ⟨B,2,none⟩ (.int .i64 0)).setCell ⟨B,3,none⟩ (.string ⟨#[]⟩)).setCell ⟨B,5,none⟩ (.int .i64 0)).setCell ⟨B,6,none⟩ (.slice none 0 0)).heap[B]?=some (.cells #[.int .i64 k,.int .i64 0,.int .i64 0,.string ⟨#[]⟩,.string f,.int .i64 0,.slice none 0 0,.string y,.int .i64 z] 44 (0,0)):=(heap_setCell_same _ _ 6 _ _ (.slice none 0 0) (heap_setCell_same _ _ 5 _ _ (.int .i64 0) (heap_setCell_same _ _ 3 _ _ (.string ⟨#[]⟩) (heap_setCell_same _ _ 2 _ _ (.int .i64 0) (heap_setCell_same _ _ 1 _ _ (.int .i64 0) r0)))))
     have r1':(((((w7.setCell ⟨B,1,none⟩ (.int .i64 0)).setCell ⟨B,2,none⟩ (.int .i64 0)).setCell ⟨B,3,none⟩ (.string ⟨#[]⟩)).setCell ⟨B,5,none⟩ (.int .i64 0)).setCell ⟨B,6,none⟩ (.slice none 0 0)).heap[B+1]?=some (.cells zeroRow 44 (0,0)):=((heap_setCell_other _ _ _ _ (by simp)).trans ((heap_setCell_other _ _ _ _ (by simp)).trans ((heap_setCell_other _ _ _ _ (by simp)).trans ((heap_setCell_other _ _ _ _ (by simp)).trans ((heap_setCell_other _ _ _ _ (by simp)).trans r1)))))
     have hB':Below B w (((((w7.setCell ⟨B,1,none⟩ (.int .i64 0)).setCell ⟨B,2,none⟩ (.int .i64 0)).setCell ⟨B,3,none⟩ (.string ⟨#[]⟩)).setCell ⟨B,5,none⟩ (.int .i64 0)).setCell ⟨B,6,none⟩ (.slice none 0 0)):=(((((hB.setCell (Nat.le_refl _) _).setCell (Nat.le_refl _) _).setCell (Nat.le_refl _) _).setCell (Nat.le_refl _) _).setCell (Nat.le_refl _) _)
     clear q0 q1 q2 q3 q4 q5 q6 q7 q8 z0 r0 r1 hB
     generalize(((((w7.setCell ⟨B,1,none⟩ (.int .i64 0)).setCell ⟨B,2,none⟩ (.int .i64 0)).setCell ⟨B,3,none⟩ (.string ⟨#[]⟩)).setCell ⟨B,5,none⟩ (.int .i64 0)).setCell ⟨B,6,none⟩ (.slice none 0 0))=w9 at *
     obtain⟨q0,q1,q2,q3,q4,q5,q6,q7,q8,z0⟩:=term_cells r0'
     obtain⟨p0,p1,p2,p3,p4,p5,p6,p7,p8,z1⟩:=term_cells r1'
     go_wp2_with fail
     refine bodyPost_ret (results_row_tmp rfl _ _ _ (B+1) _ _ _ _ rfl (set9 _ _ _ _ _ _ _ _ _ r1') Tryz.underlying44 (by kernel_rfl)) rfl ?_
     exact⟨rfl,by rw [HBE.out];exact below9 (Nat.le_succ _) hB' _ _ _ _ _ _ _ _ _⟩
    |true=>
     cases b3 with
     |false=>
      go_upto_region 3 with(go_at_call 141;first|((with_reducible refine(h0 _).mono ?_);rintro e w1 ⟨rfl,rfl⟩)|((with_reducible refine(h1 _).mono ?_);rintro e w1 ⟨rfl,rfl⟩)|((with_reducible refine(h3 _).mono ?_);rintro e w1 ⟨rfl,rfl⟩))
      have r0':(((((w7.setCell ⟨B,1,none⟩ (.int .i64 0)).setCell ⟨B,2,none⟩ (.int .i64 0)).setCell ⟨B,3,none⟩ (.string ⟨#[]⟩)).setCell ⟨B,5,none⟩ (.int .i64 0)).setCell ⟨B,6,none⟩ (.slice none 0 0)).heap[B]?=some (.cells #[.int .i64 k,.int .i64 0,.int .i64 0,.string ⟨#[]⟩,.string f,.int .i64 0,.slice none 0 0,.string y,.int .i64 z] 44 (0,0)):=(heap_setCell_same _ _ 6 _ _ (.slice none 0 0) (heap_setCell_same _ _ 5 _ _ (.int .i64 0) (heap_setCell_same _ _ 3 _ _ (.string ⟨#[]⟩) (heap_setCell_same _ _ 2 _ _ (.int .i64 0) (heap_setCell_same _ _ 1 _ _ (.int .i64 0) r0)))))
      have r1':(((((w7.setCell ⟨B,1,none⟩ (.int .i64 0)).setCell ⟨B,2,none⟩ (.int .i64 0)).setCell ⟨B,3,none⟩ (.string ⟨#[]⟩)).setCell ⟨B,5,none⟩ (.int .i64 0)).setCell ⟨B,6,none⟩ (.slice none 0 0)).heap[B+1]?=some (.cells zeroRow 44 (0,0)):=((heap_setCell_other _ _ _ _ (by simp)).trans ((heap_setCell_other _ _ _ _ (by simp)).trans ((heap_setCell_other _ _ _ _ (by simp)).trans ((heap_setCell_other _ _ _ _ (by simp)).trans ((heap_setCell_other _ _ _ _ (by simp)).trans r1)))))
      have hB':Below B w (((((w7.setCell ⟨B,1,none⟩ (.int .i64 0)).setCell ⟨B,2,none⟩ (.int .i64 0)).setCell ⟨B,3,none⟩ (.string ⟨#[]⟩)).setCell ⟨B,5,none⟩ (.int .i64 0)).setCell ⟨B,6,none⟩ (.slice none 0 0)):=(((((hB.setCell (Nat.le_refl _) _).setCell (Nat.le_refl _) _).setCell (Nat.le_refl _) _).setCell (Nat.le_refl _) _).setCell (Nat.le_refl _) _)
      clear q0 q1 q2 q3 q4 q5 q6 q7 q8 z0 r0 r1 hB
      generalize(((((w7.setCell ⟨B,1,none⟩ (.int .i64 0)).setCell ⟨B,2,none⟩ (.int .i64 0)).setCell ⟨B,3,none⟩ (.string ⟨#[]⟩)).setCell ⟨B,5,none⟩ (.int .i64 0)).setCell ⟨B,6,none⟩ (.slice none 0 0))=w9 at *
      obtain⟨q0,q1,q2,q3,q4,q5,q6,q7,q8,z0⟩:=term_cells r0'
      obtain⟨p0,p1,p2,p3,p4,p5,p6,p7,p8,z1⟩:=term_cells r1'
      go_wp2_with fail
      refine bodyPost_ret (results_row_tmp rfl _ _ _ (B+1) _ _ _ _ rfl (set9 _ _ _ _ _ _ _ _ _ r1') Tryz.underlying44 (by kernel_rfl)) rfl ?_
      exact⟨rfl,by rw [HBE.out];exact below9 (Nat.le_succ _) hB' _ _ _ _ _ _ _ _ _⟩
     |true=>
      go_upto_region 3 with(go_at_call 141;first|((with_reducible refine(h0 _).mono ?_);rintro e w1 ⟨rfl,rfl⟩)|((with_reducible refine(h1 _).mono ?_);rintro e w1 ⟨rfl,rfl⟩)|((with_reducible refine(h3 _).mono ?_);rintro e w1 ⟨rfl,rfl⟩))
      have r0':(((((w7.setCell ⟨B,1,none⟩ (.int .i64 0)).setCell ⟨B,2,none⟩ (.int .i64 0)).setCell ⟨B,3,none⟩ (.string ⟨#[]⟩)).setCell ⟨B,5,none⟩ (.int .i64 0)).setCell ⟨B,6,none⟩ (.slice none 0 0)).heap[B]?=some (.cells #[.int .i64 k,.int .i64 0,.int .i64 0,.string ⟨#[]⟩,.string f,.int .i64 0,.slice none 0 0,.string y,.int .i64 z] 44 (0,0)):=(heap_setCell_same _ _ 6 _ _ (.slice none 0 0) (heap_setCell_same _ _ 5 _ _ (.int .i64 0) (heap_setCell_same _ _ 3 _ _ (.string ⟨#[]⟩) (heap_setCell_same _ _ 2 _ _ (.int .i64 0) (heap_setCell_same _ _ 1 _ _ (.int .i64 0) r0)))))
      have r1':(((((w7.setCell ⟨B,1,none⟩ (.int .i64 0)).setCell ⟨B,2,none⟩ (.int .i64 0)).setCell ⟨B,3,none⟩ (.string ⟨#[]⟩)).setCell ⟨B,5,none⟩ (.int .i64 0)).setCell ⟨B,6,none⟩ (.slice none 0 0)).heap[B+1]?=some (.cells zeroRow 44 (0,0)):=((heap_setCell_other _ _ _ _ (by simp)).trans ((heap_setCell_other _ _ _ _ (by simp)).trans ((heap_setCell_other _ _ _ _ (by simp)).trans ((heap_setCell_other _ _ _ _ (by simp)).trans ((heap_setCell_other _ _ _ _ (by simp)).trans r1)))))
      have hB':Below B w (((((w7.setCell ⟨B,1,none⟩ (.int .i64 0)).setCell ⟨B,2,none⟩ (.int .i64 0)).setCell ⟨B,3,none⟩ (.string ⟨#[]⟩)).setCell ⟨B,5,none⟩ (.int .i64 0)).setCell ⟨B,6,none⟩ (.slice none 0 0)):=(((((hB.setCell (Nat.le_refl _) _).setCell (Nat.le_refl _) _).setCell (Nat.le_refl _) _).setCell (Nat.le_refl _) _).setCell (Nat.le_refl _) _)
      clear q0 q1 q2 q3 q4 q5 q6 q7 q8 z0 r0 r1 hB
      generalize(((((w7.setCell ⟨B,1,none⟩ (.int .i64 0)).setCell ⟨B,2,none⟩ (.int .i64 0)).setCell ⟨B,3,none⟩ (.string ⟨#[]⟩)).setCell ⟨B,5,none⟩ (.int .i64 0)).setCell ⟨B,6,none⟩ (.slice none 0 0))=w9 at *
      obtain⟨q0,q1,q2,q3,q4,q5,q6,q7,q8,z0⟩:=term_cells r0'
      obtain⟨p0,p1,p2,p3,p4,p5,p6,p7,p8,z1⟩:=term_cells r1'
      go_wp2_with fail
      refine bodyPost_ret (results_row_tmp rfl _ _ _ (B+1) _ _ _ _ rfl (set9 _ _ _ _ _ _ _ _ _ r1') Tryz.underlying44 (by kernel_rfl)) rfl ?_
      exact⟨rfl,by rw [HBE.out];exact below9 (Nat.le_succ _) hB' _ _ _ _ _ _ _ _ _⟩
 |true=>
  cases b0 with
  |false=>
   go_enter Tryz.func145,Tryz.ntmps145
   go_wp2_with (go_at_call 141;first|((with_reducible refine(h0 _).mono ?_);rintro e w1 ⟨rfl,rfl⟩)|((with_reducible refine(h1 _).mono ?_);rintro e w1 ⟨rfl,rfl⟩)|((with_reducible refine(h3 _).mono ?_);rintro e w1 ⟨rfl,rfl⟩))
   exact bodyPost_ret (v:=.tuple #[.agg #[.int .i64 k,.int .i64 0,.int .i64 0,.string ⟨#[]⟩,.string f,.int .i64 0,.slice none 0 0,.string y,.int .i64 z],.bool (false)]) (by simp [results,Tryz.results145,go_sem]) rfl ⟨rfl,two_below _ _ _⟩
  |true=>
   cases b1 with
   |false=>
    go_enter Tryz.func145,Tryz.ntmps145
    go_wp2_with (go_at_call 141;first|((with_reducible refine(h0 _).mono ?_);rintro e w1 ⟨rfl,rfl⟩)|((with_reducible refine(h1 _).mono ?_);rintro e w1 ⟨rfl,rfl⟩)|((with_reducible refine(h3 _).mono ?_);rintro e w1 ⟨rfl,rfl⟩))
    exact bodyPost_ret (v:=.tuple #[.agg #[.int .i64 k,.int .i64 0,.int .i64 0,.string ⟨#[]⟩,.string f,.int .i64 0,.slice none 0 0,.string y,.int .i64 z],.bool (false)]) (by simp [results,Tryz.results145,go_sem]) rfl ⟨rfl,two_below _ _ _⟩
   |true=>
    go_enter Tryz.func145,Tryz.ntmps145
    go_wp2_with (go_at_call 141;first|((with_reducible refine(h0 _).mono ?_);rintro e w1 ⟨rfl,rfl⟩)|((with_reducible refine(h1 _).mono ?_);rintro e w1 ⟨rfl,rfl⟩)|((with_reducible refine(h3 _).mono ?_);rintro e w1 ⟨rfl,rfl⟩))
    refine(h2 _).mono ?_
    rintro e w7 ⟨rfl,hb5⟩
    have r0:w7.heap[w.heap.size]?=some (.cells #[.int .i64 k,.int .i64 i,.int .i64 g,.string n,.string f,.int .i64 a,.slice so l c,.string y,.int .i64 z] 44 (0,0)):=(hb5.block _ (by simp;omega)).trans (two0 _ _ _)
    have r1:w7.heap[w.heap.size+1]?=some (.cells zeroRow 44 (0,0)):=(hb5.block _ (by simp)).trans (two1 _ _ _)
    have hB:Below w.heap.size w w7:=(two_below _ _ _).trans (hb5.mono (by simp;omega))
    clear hb5
    generalize hBe:w.heap.size=B at *
    have HBE:=Lib.hid hBe
    clear hBe
    obtain⟨q0,q1,q2,q3,q4,q5,q6,q7,q8,z0⟩:=term_cells r0
    cases b2 with
    |false=>
     go_upto_region 3 with(go_at_call 141;first|((with_reducible refine(h0 _).mono ?_);rintro e w1 ⟨rfl,rfl⟩)|((with_reducible refine(h1 _).mono ?_);rintro e w1 ⟨rfl,rfl⟩)|((with_reducible refine(h3 _).mono ?_);rintro e w1 ⟨rfl,rfl⟩))
     have r0':(((((w7.setCell ⟨B,1,none⟩ (.int .i64 0)).setCell ⟨B,2,none⟩ (.int .i64 0)).setCell ⟨B,3,none⟩ (.string ⟨#[]⟩)).setCell ⟨B,5,none⟩ (.int .i64 0)).setCell ⟨B,6,none⟩ (.slice none 0 0)).heap[B]?=some (.cells #[.int .i64 k,.int .i64 0,.int .i64 0,.string ⟨#[]⟩,.string f,.int .i64 0,.slice none 0 0,.string y,.int .i64 z] 44 (0,0)):=(heap_setCell_same _ _ 6 _ _ (.slice none 0 0) (heap_setCell_same _ _ 5 _ _ (.int .i64 0) (heap_setCell_same _ _ 3 _ _ (.string ⟨#[]⟩) (heap_setCell_same _ _ 2 _ _ (.int .i64 0) (heap_setCell_same _ _ 1 _ _ (.int .i64 0) r0)))))
     have r1':(((((w7.setCell ⟨B,1,none⟩ (.int .i64 0)).setCell ⟨B,2,none⟩ (.int .i64 0)).setCell ⟨B,3,none⟩ (.string ⟨#[]⟩)).setCell ⟨B,5,none⟩ (.int .i64 0)).setCell ⟨B,6,none⟩ (.slice none 0 0)).heap[B+1]?=some (.cells zeroRow 44 (0,0)):=((heap_setCell_other _ _ _ _ (by simp)).trans ((heap_setCell_other _ _ _ _ (by simp)).trans ((heap_setCell_other _ _ _ _ (by simp)).trans ((heap_setCell_other _ _ _ _ (by simp)).trans ((heap_setCell_other _ _ _ _ (by simp)).trans r1)))))
     have hB':Below B w (((((w7.setCell ⟨B,1,none⟩ (.int .i64 0)).setCell ⟨B,2,none⟩ (.int .i64 0)).setCell ⟨B,3,none⟩ (.string ⟨#[]⟩)).setCell ⟨B,5,none⟩ (.int .i64 0)).setCell ⟨B,6,none⟩ (.slice none 0 0)):=(((((hB.setCell (Nat.le_refl _) _).setCell (Nat.le_refl _) _).setCell (Nat.le_refl _) _).setCell (Nat.le_refl _) _).setCell (Nat.le_refl _) _)
     clear q0 q1 q2 q3 q4 q5 q6 q7 q8 z0 r0 r1 hB
     generalize(((((w7.setCell ⟨B,1,none⟩ (.int .i64 0)).setCell ⟨B,2,none⟩ (.int .i64 0)).setCell ⟨B,3,none⟩ (.string ⟨#[]⟩)).setCell ⟨B,5,none⟩ (.int .i64 0)).setCell ⟨B,6,none⟩ (.slice none 0 0))=w9 at *
     obtain⟨q0,q1,q2,q3,q4,q5,q6,q7,q8,z0⟩:=term_cells r0'
     obtain⟨p0,p1,p2,p3,p4,p5,p6,p7,p8,z1⟩:=term_cells r1'
     go_wp2_with fail
     refine bodyPost_ret (results_row_tmp rfl _ _ _ (B+1) _ _ _ _ rfl (set9 _ _ _ _ _ _ _ _ _ r1') Tryz.underlying44 (by kernel_rfl)) rfl ?_
     exact⟨rfl,by rw [HBE.out];exact below9 (Nat.le_succ _) hB' _ _ _ _ _ _ _ _ _⟩
    |true=>
     cases b3 with
     |false=>
      go_upto_region 3 with(go_at_call 141;first|((with_reducible refine(h0 _).mono ?_);rintro e w1 ⟨rfl,rfl⟩)|((with_reducible refine(h1 _).mono ?_);rintro e w1 ⟨rfl,rfl⟩)|((with_reducible refine(h3 _).mono ?_);rintro e w1 ⟨rfl,rfl⟩))
      have r0':(((((w7.setCell ⟨B,1,none⟩ (.int .i64 0)).setCell ⟨B,2,none⟩ (.int .i64 0)).setCell ⟨B,3,none⟩ (.string ⟨#[]⟩)).setCell ⟨B,5,none⟩ (.int .i64 0)).setCell ⟨B,6,none⟩ (.slice none 0 0)).heap[B]?=some (.cells #[.int .i64 k,.int .i64 0,.int .i64 0,.string ⟨#[]⟩,.string f,.int .i64 0,.slice none 0 0,.string y,.int .i64 z] 44 (0,0)):=(heap_setCell_same _ _ 6 _ _ (.slice none 0 0) (heap_setCell_same _ _ 5 _ _ (.int .i64 0) (heap_setCell_same _ _ 3 _ _ (.string ⟨#[]⟩) (heap_setCell_same _ _ 2 _ _ (.int .i64 0) (heap_setCell_same _ _ 1 _ _ (.int .i64 0) r0)))))
      have r1':(((((w7.setCell ⟨B,1,none⟩ (.int .i64 0)).setCell ⟨B,2,none⟩ (.int .i64 0)).setCell ⟨B,3,none⟩ (.string ⟨#[]⟩)).setCell ⟨B,5,none⟩ (.int .i64 0)).setCell ⟨B,6,none⟩ (.slice none 0 0)).heap[B+1]?=some (.cells zeroRow 44 (0,0)):=((heap_setCell_other _ _ _ _ (by simp)).trans ((heap_setCell_other _ _ _ _ (by simp)).trans ((heap_setCell_other _ _ _ _ (by simp)).trans ((heap_setCell_other _ _ _ _ (by simp)).trans ((heap_setCell_other _ _ _ _ (by simp)).trans r1)))))
      have hB':Below B w (((((w7.setCell ⟨B,1,none⟩ (.int .i64 0)).setCell ⟨B,2,none⟩ (.int .i64 0)).setCell ⟨B,3,none⟩ (.string ⟨#[]⟩)).setCell ⟨B,5,none⟩ (.int .i64 0)).setCell ⟨B,6,none⟩ (.slice none 0 0)):=(((((hB.setCell (Nat.le_refl _) _).setCell (Nat.le_refl _) _).setCell (Nat.le_refl _) _).setCell (Nat.le_refl _) _).setCell (Nat.le_refl _) _)
      clear q0 q1 q2 q3 q4 q5 q6 q7 q8 z0 r0 r1 hB
      generalize(((((w7.setCell ⟨B,1,none⟩ (.int .i64 0)).setCell ⟨B,2,none⟩ (.int .i64 0)).setCell ⟨B,3,none⟩ (.string ⟨#[]⟩)).setCell ⟨B,5,none⟩ (.int .i64 0)).setCell ⟨B,6,none⟩ (.slice none 0 0))=w9 at *
      obtain⟨q0,q1,q2,q3,q4,q5,q6,q7,q8,z0⟩:=term_cells r0'
      obtain⟨p0,p1,p2,p3,p4,p5,p6,p7,p8,z1⟩:=term_cells r1'
      go_wp2_with fail
      refine bodyPost_ret (results_row_tmp rfl _ _ _ (B+1) _ _ _ _ rfl (set9 _ _ _ _ _ _ _ _ _ r1') Tryz.underlying44 (by kernel_rfl)) rfl ?_
      exact⟨rfl,by rw [HBE.out];exact below9 (Nat.le_succ _) hB' _ _ _ _ _ _ _ _ _⟩
     |true=>
      go_upto_region 3 with(go_at_call 141;first|((with_reducible refine(h0 _).mono ?_);rintro e w1 ⟨rfl,rfl⟩)|((with_reducible refine(h1 _).mono ?_);rintro e w1 ⟨rfl,rfl⟩)|((with_reducible refine(h3 _).mono ?_);rintro e w1 ⟨rfl,rfl⟩))
      have r0':(((((w7.setCell ⟨B,1,none⟩ (.int .i64 0)).setCell ⟨B,2,none⟩ (.int .i64 0)).setCell ⟨B,3,none⟩ (.string ⟨#[]⟩)).setCell ⟨B,5,none⟩ (.int .i64 0)).setCell ⟨B,6,none⟩ (.slice none 0 0)).heap[B]?=some (.cells #[.int .i64 k,.int .i64 0,.int .i64 0,.string ⟨#[]⟩,.string f,.int .i64 0,.slice none 0 0,.string y,.int .i64 z] 44 (0,0)):=(heap_setCell_same _ _ 6 _ _ (.slice none 0 0) (heap_setCell_same _ _ 5 _ _ (.int .i64 0) (heap_setCell_same _ _ 3 _ _ (.string ⟨#[]⟩) (heap_setCell_same _ _ 2 _ _ (.int .i64 0) (heap_setCell_same _ _ 1 _ _ (.int .i64 0) r0)))))
      have r1':(((((w7.setCell ⟨B,1,none⟩ (.int .i64 0)).setCell ⟨B,2,none⟩ (.int .i64 0)).setCell ⟨B,3,none⟩ (.string ⟨#[]⟩)).setCell ⟨B,5,none⟩ (.int .i64 0)).setCell ⟨B,6,none⟩ (.slice none 0 0)).heap[B+1]?=some (.cells zeroRow 44 (0,0)):=((heap_setCell_other _ _ _ _ (by simp)).trans ((heap_setCell_other _ _ _ _ (by simp)).trans ((heap_setCell_other _ _ _ _ (by simp)).trans ((heap_setCell_other _ _ _ _ (by simp)).trans ((heap_setCell_other _ _ _ _ (by simp)).trans r1)))))
      have hB':Below B w (((((w7.setCell ⟨B,1,none⟩ (.int .i64 0)).setCell ⟨B,2,none⟩ (.int .i64 0)).setCell ⟨B,3,none⟩ (.string ⟨#[]⟩)).setCell ⟨B,5,none⟩ (.int .i64 0)).setCell ⟨B,6,none⟩ (.slice none 0 0)):=(((((hB.setCell (Nat.le_refl _) _).setCell (Nat.le_refl _) _).setCell (Nat.le_refl _) _).setCell (Nat.le_refl _) _).setCell (Nat.le_refl _) _)
      clear q0 q1 q2 q3 q4 q5 q6 q7 q8 z0 r0 r1 hB
      generalize(((((w7.setCell ⟨B,1,none⟩ (.int .i64 0)).setCell ⟨B,2,none⟩ (.int .i64 0)).setCell ⟨B,3,none⟩ (.string ⟨#[]⟩)).setCell ⟨B,5,none⟩ (.int .i64 0)).setCell ⟨B,6,none⟩ (.slice none 0 0))=w9 at *
      obtain⟨q0,q1,q2,q3,q4,q5,q6,q7,q8,z0⟩:=term_cells r0'
      obtain⟨p0,p1,p2,p3,p4,p5,p6,p7,p8,z1⟩:=term_cells r1'
      go_wp2_with fail
      refine bodyPost_ret (results_row_tmp rfl _ _ _ (B+1) _ _ _ _ rfl (set9 _ _ _ _ _ _ _ _ _ r1') Tryz.underlying44 (by kernel_rfl)) rfl ?_
      exact⟨rfl,by rw [HBE.out];exact below9 (Nat.le_succ _) hB' _ _ _ _ _ _ _ _ _⟩
end
theorem low_bits (b r:Nat) (hb:b<256) (hr:r<8):b*2^r%256=0↔b%2^(8-r)=0:=by
 match r,hr with
 |0,_=>simp
 |1,_=>simp;omega
 |2,_=>simp;omega
 |3,_=>simp;omega
 |4,_=>simp;omega
 |5,_=>simp;omega
 |6,_=>simp;omega
 |7,_=>simp;omega
 |r+8,h=>omega
theorem lastByte_at {y:ByteArray} {m:Nat} (h:y.size=m+1):lastByte y=(y[m]'(by omega)).toNat:=by
 unfold lastByte
 have hl:y.data.toList.length=m+1:=by rw [Array.length_toList];exact h
 rw [List.getLast?_eq_getElem?,hl,Nat.add_sub_cancel,List.getElem?_eq_getElem (by omega)]
 rfl
section
variable (k i g:Int) (n f:ByteArray) (a:Int) (so:Option Addr) (l c:Nat) (y:ByteArray) (z:Int) (w:World)
theorem kind_list0 (hl:l<2):Calls Tryz.prog 149 #[.agg #[.int .i64 k,.int .i64 i,.int .i64 g,.string n,.string f,.int .i64 a,.slice so l c,.string y,.int .i64 z]] w fun e w'=>
  e= .returned (.tuple #[.agg #[.int .i64 k,.int .i64 i,.int .i64 g,.string n,.string f,.int .i64 a,.slice none 0 0,.string y,.int .i64 z],.bool false])/\Below w.heap.size w w':=by
 have hd:decide ((2:Int)<=(l:Int))=false:=decide_eq_false (by omega)
 go_enter Tryz.func149,Tryz.ntmps149
 go_wp2_with fail
 exact bodyPost_ret (v:=.tuple #[.agg #[.int .i64 k,.int .i64 i,.int .i64 g,.string n,.string f,.int .i64 a,.slice none 0 0,.string y,.int .i64 z],.bool false]) (by simp [results,Tryz.results149,go_sem]) rfl ⟨rfl,two_below _ _ _⟩
theorem kind_list2 (b off m:Nat) (kk:Int) (hm:m<=9223372036854775805) (hb:b<w.heap.size) (hc:w.cell? ⟨b,off+(m+1)*9,none⟩=some (.int .i64 kk)):Calls Tryz.prog 149 #[.agg #[.int .i64 k,.int .i64 i,.int .i64 g,.string n,.string f,.int .i64 a,.slice (some ⟨b,off,none⟩) (m+2) c,.string y,.int .i64 z]] w fun e w'=>
  e = .returned (.tuple #[.agg #[.int .i64 k, .int .i64 i, .int .i64 g, .string n, .string f, .int .i64 a, .slice none 0 0, .string y, .int .i64 z], .bool (kk != 9)]) /\ Below w.heap.size w w' := by
 have hd:decide ((2:Int)<=((m+2:Nat):Int))=true:=decide_eq_true (by omega)
 have hi:(((m+2:Nat):Int)-1).toNat=m+1:=by omega
 go_enter Tryz.func149,Tryz.ntmps149
 go_wp2_with fail
 exact bodyPost_ret (v := .tuple #[.agg #[.int .i64 k, .int .i64 i, .int .i64 g, .string n, .string f, .int .i64 a, .slice none 0 0, .string y, .int .i64 z], .bool (kk != 9)]) (by simp [results, Tryz.results149, go_sem]) rfl ⟨rfl, two_below _ _ _⟩
theorem kind_bits (hy:y.size<=9223372036854775807) (hz:I64 z):Calls Tryz.prog 150 #[.agg #[.int .i64 k,.int .i64 i,.int .i64 g,.string n,.string f,.int .i64 a,.slice so l c,.string y,.int .i64 z]] w fun e w'=>
  e= .returned (.tuple #[.agg #[.int .i64 k,.int .i64 i,.int .i64 g,.string n,.string f,.int .i64 a,.slice so l c,.string ⟨#[]⟩,.int .i64 0],.bool (bitsV y z)])/\Below w.heap.size w w':=by
 have h0:=fun wx=>twithin_any z 0 16384 wx
 by_cases hw:0<=z/\z<=16384
 ·obtain⟨z0,z1⟩:=hw
  have hwi:=wi_yes z0 z1
  have E0:bitsV y z=(decide ((y.size:Int)=(z+7)/8)&&(decide (z%8=0)||decide (lastByte y%2^(8-z%8).toNat=0))):=by unfold bitsV;rw [hwi];rfl
  rw [hwi]at h0
  clear hwi
  by_cases hl:(y.size:Int)=(z+7)/8
  ·have hlb:((y.size:Int)==(z+7)/8)=true:=by rw [beq_iff_eq];exact hl
   by_cases hr:z%8=0
   ·have hrb:(z%8!=0)=false:=by rw [bne_eq_false_iff_eq];exact hr
    have E:=Lib.hid (E0.trans (by rw [decide_eq_true hl,decide_eq_true hr];rfl:_=true))
    rw [E.out]
    clear E E0 hr hl hz
    go_enter Tryz.func150,Tryz.ntmps150
    go_wp2_with (go_at_call 141;refine(h0 _).mono ?_;rintro e w1 ⟨rfl,rfl⟩)
    exact bodyPost_ret (v:=.tuple #[.agg #[.int .i64 k,.int .i64 i,.int .i64 g,.string n,.string f,.int .i64 a,.slice so l c,.string ⟨#[]⟩,.int .i64 0],.bool true]) (by simp [results,Tryz.results150,go_sem]) rfl ⟨rfl,two_below _ _ _⟩
   ·have hrb:(z%8!=0)=true:=by rw [bne_iff_ne];exact hr
    obtain⟨m,hm⟩: ∃m,y.size=m+1:=⟨y.size-1,by omega⟩
    have hmi:m<y.size:=by omega
    have hmy:m<=100000:=by omega
    have HM:=Lib.hid hm
    have hw1:IntKind.i64.wrap ((y.size:Int)-1)=(m:Int):=by rw [IntKind.wrap_i64];omega
    have hrem:z.tmod 8=z%8:=by rw [Int.tmod_eq_emod_of_nonneg z0]
    have hr0:0<=z%8:=by omega
    have hr8:z%8<8:=by omega
    have EE:Hid ((((y[m].toNat:Nat):Int)*2^(z%8).toNat%256==0)=bitsV y z):=Lib.hid (by
     rw [E0,decide_eq_true hl,decide_eq_false hr,lastByte_at hm]
     rw [Bool.true_and,Bool.false_or]
     have h:=low_bits y[m].toNat (z%8).toNat (UInt8.toNat_lt _) (by omega)
     rw [show(8-z%8).toNat=8-(z%8).toNat by omega]
     rw [Bool.eq_iff_iff,beq_iff_eq,decide_eq_true_eq,<-h]
     exact⟨fun h=>by exact_mod_cast h,fun h=>by exact_mod_cast h⟩)
    clear hl hz hm hr E0
    go_enter Tryz.func150,Tryz.ntmps150
    go_wp2_with (go_at_call 141;refine(h0 _).mono ?_;rintro e w1 ⟨rfl,rfl⟩)
    go_quiet (fail)
    go_wp2_with fail
    refine bodyPost_ret (results_row_tmp rfl _ _ _ (w.heap.size+1) _ _ _ _ rfl (set9 _ _ _ _ _ _ _ _ _ ((heap_setCell_other _ _ _ _ (by simp)).trans ((heap_setCell_other _ _ _ _ (by simp)).trans (two1 w _ _)))) Tryz.underlying44 (by kernel_rfl)) rfl ?_
    exact⟨by rw [<-EE.out];rfl,below9 (Nat.le_succ _) (((below_drewN (two_below _ _ _) _).setCell (Nat.le_refl _) _).setCell (Nat.le_refl _) _) _ _ _ _ _ _ _ _ _⟩
  ·have hlb:((y.size:Int)==(z+7)/8)=false:=by rw [beq_eq_false_iff_ne];exact hl
   have E:=Lib.hid (E0.trans (by rw [decide_eq_false hl];rfl:_=false))
   rw [E.out]
   clear E E0 hl hz
   go_enter Tryz.func150,Tryz.ntmps150
   go_wp2_with (go_at_call 141;refine(h0 _).mono ?_;rintro e w1 ⟨rfl,rfl⟩)
   exact bodyPost_ret (v:=.tuple #[.agg #[.int .i64 k,.int .i64 i,.int .i64 g,.string n,.string f,.int .i64 a,.slice so l c,.string ⟨#[]⟩,.int .i64 0],.bool false]) (by simp [results,Tryz.results150,go_sem]) rfl ⟨rfl,two_below _ _ _⟩
 ·have hwi:=wi_no hw
  have E:Hid (bitsV y z=false):=Lib.hid (by unfold bitsV;rw [hwi];rfl)
  rw [hwi]at h0
  rw [E.out]
  clear E hwi hw hz
  go_enter Tryz.func150,Tryz.ntmps150
  go_wp2_with (go_at_call 141;refine(h0 _).mono ?_;rintro e w1 ⟨rfl,rfl⟩)
  exact bodyPost_ret (v:=.tuple #[.agg #[.int .i64 k,.int .i64 i,.int .i64 g,.string n,.string f,.int .i64 a,.slice so l c,.string ⟨#[]⟩,.int .i64 0],.bool false]) (by simp [results,Tryz.results150,go_sem]) rfl ⟨rfl,two_below _ _ _⟩
end
def sameL (rec:Tm->Tm->Bool):List Tm->List Tm->Bool
 |[],[]=>true
 |x::l,y::m=>rec x y&&sameL rec l m
 |_,_=>false
def flatB (a b:Tm):Bool:=(a.kind==b.kind)&&((a.int==b.int)&&((a.gen==b.gen)&&((a.name.toList==b.name.toList)&&((a.func.toList==b.func.toList)&&((a.arity==b.arity)&&((a.bytes.toList==b.bytes.toList)&&(a.bits==b.bits)))))))
def sameF:Nat->Tm->Tm->Bool
 |0,_,_=>false
 |f+1,a,b=>flatB a b&&sameL (sameF f) a.items b.items
theorem sameL_len {rec:Tm->Tm->Bool}: ∀{l m:List Tm},l.length≠m.length->sameL rec l m=false
 |[],[],h=>absurd rfl h
 |_::l,_::m,h=>by
  unfold sameL
  rw [sameL_len (l:=l) (m:=m) (by simpa using h)]
  exact Bool.and_false _
 |[],_::_,_=>rfl
 |_::_,[],_=>rfl
theorem sameL_step {rec:Tm->Tm->Bool} {l m:List Tm} {k:Nat} (h:k<l.length) (h':k<m.length):sameL rec (l.drop k) (m.drop k)=(rec l[k] m[k]&&sameL rec (l.drop (k+1)) (m.drop (k+1))):=by
 rw [List.drop_eq_getElem_cons h,List.drop_eq_getElem_cons h',sameL]
theorem sameL_end {rec:Tm->Tm->Bool} {l m:List Tm} {k:Nat} (h:l.length<=k) (h':m.length<=k):sameL rec (l.drop k) (m.drop k)=true:=by
 rw [List.drop_eq_nil_of_le h,List.drop_eq_nil_of_le h',sameL]
def AlikeP (f:Nat):Prop:= ∀(ao bo:Option Addr) (c d:Nat) (l m:List Tm) (w:World),SlAt w 9 (TmAt w f) ao l->SlAt w 9 (TmAt w f) bo m->l.length<=maxLen->m.length<=maxLen ->
 Calls Tryz.prog 183 #[.slice ao l.length c,.slice bo m.length d,.func (.func 151) #[] #[]] w fun e w'=>e= .returned (.bool (sameL (sameF f) l m))/\Below w.heap.size w w'
def SameP (f:Nat):Prop:= ∀(a b:Tm) (ao bo:Option Addr) (c d:Nat) (w:World),SlAt w 9 (TmAt w f) ao a.items->SlAt w 9 (TmAt w f) bo b.items->a.items.length<=maxLen->b.items.length<=maxLen ->
 Calls Tryz.prog 151 #[.agg #[.int .i64 a.kind,.int .i64 a.int,.int .i64 a.gen,.string a.name,.string a.func,.int .i64 a.arity,.slice ao a.items.length c,.string a.bytes,.int .i64 a.bits],
   .agg #[.int .i64 b.kind,.int .i64 b.int,.int .i64 b.gen,.string b.name,.string b.func,.int .i64 b.arity,.slice bo b.items.length d,.string b.bytes,.int .i64 b.bits]] w fun e w'=>e= .returned (.bool (sameF (f+1) a b))/\Below w.heap.size w w'
theorem same_of {f:Nat} (HP:Hid (AlikeP f)):SameP f:=by
 intro a b ao bo c d w ha hb hla hlb
 have hA: ∀wx,Below w.heap.size w wx->Calls Tryz.prog 183 #[.slice ao a.items.length c,.slice bo b.items.length d,.func (.func 151) #[] #[]] wx fun e w'=>e= .returned (.bool (sameL (sameF f) a.items b.items))/\Below w.heap.size w w':=
  fun wx hx=>(HP.out ao bo c d a.items b.items wx (ha.tms hx) (hb.tms hx) hla hlb).mono fun _ _ ⟨h1,h2⟩=>⟨h1,below_next hx h2⟩
 have E0:Hid (sameF (f+1) a b=(flatB a b&&sameL (sameF f) a.items b.items)):=Lib.hid rfl
 unfold flatB at E0
 clear ha hb hla hlb
 generalize sameL (sameF f) a.items b.items=sl at *
 generalize sameF (f+1) a b=r at *
 obtain⟨ak,ai,ag,an,af,aa,al,ay,az⟩:=a
 obtain⟨bk,bi,bg,bn,bf,ba,bl,by',bz⟩:=b
 simp only [Tm.kind,Tm.int,Tm.gen,Tm.name,Tm.func,Tm.arity,Tm.items,Tm.bytes,Tm.bits]at *
 have hbe:Below w.heap.size w ((w.alloc (.cells #[.int .i64 ak,.int .i64 ai,.int .i64 ag,.string an,.string af,.int .i64 aa,.slice ao al.length c,.string ay,.int .i64 az] 44)).alloc (.cells #[.int .i64 bk,.int .i64 bi,.int .i64 bg,.string bn,.string bf,.int .i64 ba,.slice bo bl.length d,.string by',.int .i64 bz] 44)):=two_below _ _ _
 have HA:=hA _ hbe
 have HBE:=Lib.hid hbe
 clear hA hbe
 cases t0:(ak==bk)with
 |false=>
  simp only [t0]at E0
  simp only [Bool.true_and,Bool.false_and,Bool.and_true,Bool.and_false]at E0
  go_enter Tryz.func151,Tryz.ntmps151
  go_wp2_with fail
  go_ret
  exact⟨retb E0.out.symm,HBE.out⟩
 |true=>
  simp only [t0]at E0
  cases t1:(ai==bi)with
  |false=>
   simp only [t1]at E0
   simp only [Bool.true_and,Bool.false_and,Bool.and_true,Bool.and_false]at E0
   go_enter Tryz.func151,Tryz.ntmps151
   go_wp2_with fail
   go_ret
   exact⟨retb E0.out.symm,HBE.out⟩
  |true=>
   simp only [t1]at E0
   cases t2:(ag==bg)with
   |false=>
    simp only [t2]at E0
    simp only [Bool.true_and,Bool.false_and,Bool.and_true,Bool.and_false]at E0
    go_enter Tryz.func151,Tryz.ntmps151
    go_wp2_with fail
    go_ret
    exact⟨retb E0.out.symm,HBE.out⟩
   |true=>
    simp only [t2]at E0
    cases t3:(an.toList==bn.toList)with
    |false=>
     simp only [t3]at E0
     simp only [Bool.true_and,Bool.false_and,Bool.and_true,Bool.and_false]at E0
     go_enter Tryz.func151,Tryz.ntmps151
     go_wp2_with fail
     go_ret
     exact⟨retb E0.out.symm,HBE.out⟩
    |true=>
     simp only [t3]at E0
     cases t4:(af.toList==bf.toList)with
     |false=>
      simp only [t4]at E0
      simp only [Bool.true_and,Bool.false_and,Bool.and_true,Bool.and_false]at E0
      go_enter Tryz.func151,Tryz.ntmps151
      go_wp2_with fail
      go_ret
      exact⟨retb E0.out.symm,HBE.out⟩
     |true=>
      simp only [t4]at E0
      cases t5:(aa==ba)with
      |false=>
       simp only [t5]at E0
       simp only [Bool.true_and,Bool.false_and,Bool.and_true,Bool.and_false]at E0
       go_enter Tryz.func151,Tryz.ntmps151
       go_wp2_with fail
       go_ret
       exact⟨retb E0.out.symm,HBE.out⟩
      |true=>
       simp only [t5]at E0
       cases t6:(ay.toList==by'.toList)with
       |false=>
        simp only [t6]at E0
        simp only [Bool.true_and,Bool.false_and,Bool.and_true,Bool.and_false]at E0
        go_enter Tryz.func151,Tryz.ntmps151
        go_wp2_with fail
        go_ret
        exact⟨retb E0.out.symm,HBE.out⟩
       |true=>
        simp only [t6]at E0
        cases t7:(az==bz)with
        |false=>
         simp only [t7]at E0
         simp only [Bool.true_and,Bool.false_and,Bool.and_true,Bool.and_false]at E0
         go_enter Tryz.func151,Tryz.ntmps151
         go_wp2_with fail
         go_ret
         exact⟨retb E0.out.symm,HBE.out⟩
        |true=>
         simp only [t7]at E0
         simp only [Bool.true_and,Bool.false_and,Bool.and_true,Bool.and_false]at E0
         go_enter Tryz.func151,Tryz.ntmps151
         go_wp2_with fail
         refine HA.mono ?_
         rintro e w5 ⟨rfl,hb5⟩
         go_wp2_with fail
         go_ret
         exact⟨retb E0.out.symm,hb5⟩
theorem alike_zero:AlikeP 0:=by
 intro ao bo c d l m w ha hb hla hlb
 obtain rfl:=ha.zero
 obtain rfl:=hb.zero
 go_enter Tryz.func183,Tryz.ntmps183
 go_wp2_with fail
 go_loop [16] (fun i=>i= .int .i64 0) (fun _=>0)
 case atStart=>rfl
 case round=>
  obtain rfl:=hrel
  go_wp2_with fail
  go_ret
  exact⟨rfl,Below.refl _ _⟩
theorem alike_succ {f:Nat} (HQ:Hid (SameP f)):AlikeP (f+1):=by
 intro ao bo c d l m w ha hb hla hlb
 unfold maxLen at hla hlb
 by_cases hlm:l.length=m.length
 ·have HA:=Lib.hid ha;have HB:=Lib.hid hb
  have HLM:=Lib.hid hlm
  have hlmb:((l.length:Int)!=(m.length:Int))=false:=by rw [hlm];simp
  have HS:Hid (sameL (sameF (f+1)) l m=sameL (sameF (f+1)) (l.drop 0) (m.drop 0)):=Lib.hid rfl
  clear ha hb hlm
  go_enter Tryz.func183,Tryz.ntmps183
  go_wp2_with fail
  go_loopw [7,8,16] (fun _ _ i wr=> ∃k:Nat,k<=l.length/\i= .int .i64 k/\Hid (sameL (sameF (f+1)) l m=sameL (sameF (f+1)) (l.drop k) (m.drop k))/\Below w.heap.size w wr) (fun _ _ i _=>l.length-(intOf i).toNat)
  case atStart=>exact⟨0,Nat.zero_le _,rfl,HS,Below.refl _ _⟩
  case round=>
   obtain⟨k,hk,rfl,HK,hBw⟩:=hrel
   rename World=>wr
   by_cases hlt:k<l.length
   ·have hlt':k<m.length:=by have:=HLM.out;omega
    have hsa:=HA.out.tms hBw
    have hsb:=HB.out.tms hBw
    obtain⟨b1,off1,ai,ci,hao,hb1,q0,q1,q2,q3,q4,q5,q6,q7,q8,hit,hok⟩:=hsa.tm hlt
    obtain⟨b2,off2,bi,di,hbo,hb2,p0,p1,p2,p3,p4,p5,p6,p7,p8,hit2,hok2⟩:=hsb.tm hlt'
    subst hao;subst hbo
    have HST:=Lib.hid (sameL_step (rec:=sameF (f+1)) hlt hlt')
    have hbx:Below wr.heap.size wr (wr.alloc (.cells #[.int .i64 l[k].kind,.int .i64 l[k].int,.int .i64 l[k].gen,.string l[k].name,.string l[k].func,.int .i64 l[k].arity,.slice ai l[k].items.length ci,.string l[k].bytes,.int .i64 l[k].bits] 44)):=zzE _ _
    have hSM:=HQ.out l[k] m[k] ai bi ci di (wr.alloc (.cells #[.int .i64 l[k].kind,.int .i64 l[k].int,.int .i64 l[k].gen,.string l[k].name,.string l[k].func,.int .i64 l[k].arity,.slice ai l[k].items.length ci,.string l[k].bytes,.int .i64 l[k].bits] 44)).drew (hit.tms hbx.drew) (hit2.tms hbx.drew) hok.2.2.2.2.2.2.1 hok2.2.2.2.2.2.2.1
    have HBX:=Lib.hid (hBw.trans (hbx.mono hBw.size))
    have hbs:w.heap.size<=(wr.alloc (.cells #[.int .i64 l[k].kind,.int .i64 l[k].int,.int .i64 l[k].gen,.string l[k].name,.string l[k].func,.int .i64 l[k].arity,.slice ai l[k].items.length ci,.string l[k].bytes,.int .i64 l[k].bits] 44)).heap.size:=HBX.out.size
    have hca:=heap_alloc_new wr (.cells #[.int .i64 l[k].kind,.int .i64 l[k].int,.int .i64 l[k].gen,.string l[k].name,.string l[k].func,.int .i64 l[k].arity,.slice ai l[k].items.length ci,.string l[k].bytes,.int .i64 l[k].bits] 44)
    have hb2':b2<(wr.alloc (.cells #[.int .i64 l[k].kind,.int .i64 l[k].int,.int .i64 l[k].gen,.string l[k].name,.string l[k].func,.int .i64 l[k].arity,.slice ai l[k].items.length ci,.string l[k].bytes,.int .i64 l[k].bits] 44)).heap.size:=Nat.lt_of_lt_of_le hb2 hbx.size
    have p0':=(hbx.cell (p:=⟨b2,off2+k*9,none⟩) hb2).trans p0
    have p1':=(hbx.cell (p:=⟨b2,off2+k*9+1,none⟩) hb2).trans p1
    have p2':=(hbx.cell (p:=⟨b2,off2+k*9+2,none⟩) hb2).trans p2
    have p3':=(hbx.cell (p:=⟨b2,off2+k*9+3,none⟩) hb2).trans p3
    have p4':=(hbx.cell (p:=⟨b2,off2+k*9+4,none⟩) hb2).trans p4
    have p5':=(hbx.cell (p:=⟨b2,off2+k*9+5,none⟩) hb2).trans p5
    have p6':=(hbx.cell (p:=⟨b2,off2+k*9+6,none⟩) hb2).trans p6
    have p7':=(hbx.cell (p:=⟨b2,off2+k*9+7,none⟩) hb2).trans p7
    have p8':=(hbx.cell (p:=⟨b2,off2+k*9+8,none⟩) hb2).trans p8
    clear hit hit2 hok hok2 hsa hsb hbx
    generalize l[k]=x at *
    generalize m[k]=y at *
    cases hr:sameF (f+1) x y with
    |true=>
     have HK2:Hid (sameL (sameF (f+1)) l m=sameL (sameF (f+1)) (l.drop (k+1)) (m.drop (k+1))):=Lib.hid (by rw [HK.out,HST.out,hr,Bool.true_and])
     rw [hr]at hSM
     clear hr
     have HBS:=Lib.hid hbs;clear hbs
     go_wp2_with fail
     generalize(wr.alloc (.cells #[.int .i64 x.kind,.int .i64 x.int,.int .i64 x.gen,.string x.name,.string x.func,.int .i64 x.arity,.slice ai x.items.length ci,.string x.bytes,.int .i64 x.bits] 44))=wa at *
     generalize wr.heap.size=C at *
     obtain⟨q0',q1',q2',q3',q4',q5',q6',q7',q8',z1⟩:=term_cells hca
     have hCs:=lt_of_row hca
     have HCA:=Lib.hid hca;clear hca z1 q0 q1 q2 q3 q4 q5 q6 q7 q8 p0 p1 p2 p3 p4 p5 p6 p7 p8
     first|go_region_held3 (fun w'=>((w'.cell? ⟨C,0,none⟩=some (.int .i64 x.kind)/\w'.cell? ⟨C,1,none⟩=some (.int .i64 x.int)/\w'.cell? ⟨C,2,none⟩=some (.int .i64 x.gen)/\w'.cell? ⟨C,3,none⟩=some (.string x.name)/\w'.cell? ⟨C,4,none⟩=some (.string x.func)/\w'.cell? ⟨C,5,none⟩=some (.int .i64 x.arity)/\w'.cell? ⟨C,6,none⟩=some (.slice ai x.items.length ci)/\w'.cell? ⟨C,7,none⟩=some (.string x.bytes)/\w'.cell? ⟨C,8,none⟩=some (.int .i64 x.bits))/\(w'.cell? ⟨b2,off2+k*9,none⟩=some (.int .i64 y.kind)/\w'.cell? ⟨b2,off2+k*9+1,none⟩=some (.int .i64 y.int)/\w'.cell? ⟨b2,off2+k*9+2,none⟩=some (.int .i64 y.gen)/\w'.cell? ⟨b2,off2+k*9+3,none⟩=some (.string y.name)/\w'.cell? ⟨b2,off2+k*9+4,none⟩=some (.string y.func)/\w'.cell? ⟨b2,off2+k*9+5,none⟩=some (.int .i64 y.arity)/\w'.cell? ⟨b2,off2+k*9+6,none⟩=some (.slice bi y.items.length di)/\w'.cell? ⟨b2,off2+k*9+7,none⟩=some (.string y.bytes)/\w'.cell? ⟨b2,off2+k*9+8,none⟩=some (.int .i64 y.bits)))) (((repeat' apply And.intro)<;>assumption)) ((go_at_call 151;refine hSM.mono ?_;rintro e w5 ⟨rfl,hb5⟩;obtain⟨r0,r1,r2,r3,r4,r5,r6,r7,r8,_⟩:=term_cells ((hb5.block C hCs).trans HCA.out);have s0:=(hb5.cell (p:=⟨b2,off2+k*9,none⟩) hb2').trans p0';have s1:=(hb5.cell (p:=⟨b2,off2+k*9+1,none⟩) hb2').trans p1';have s2:=(hb5.cell (p:=⟨b2,off2+k*9+2,none⟩) hb2').trans p2';have s3:=(hb5.cell (p:=⟨b2,off2+k*9+3,none⟩) hb2').trans p3';have s4:=(hb5.cell (p:=⟨b2,off2+k*9+4,none⟩) hb2').trans p4';have s5:=(hb5.cell (p:=⟨b2,off2+k*9+5,none⟩) hb2').trans p5';have s6:=(hb5.cell (p:=⟨b2,off2+k*9+6,none⟩) hb2').trans p6';have s7:=(hb5.cell (p:=⟨b2,off2+k*9+7,none⟩) hb2').trans p7';have s8:=(hb5.cell (p:=⟨b2,off2+k*9+8,none⟩) hb2').trans p8'))|fail
     go_wp2_with fail
     go_roundw
     case rel=>exact⟨k+1,by omega,by go_num,HK2,HBX.out.drew.trans (hb5.mono HBS.out)⟩
     case measure=>simp [intOf];omega
    |false=>
     have E:Hid (sameL (sameF (f+1)) l m=false):=Lib.hid (by rw [HK.out,HST.out,hr,Bool.false_and])
     rw [hr]at hSM
     clear hr
     have HBS:=Lib.hid hbs;clear hbs
     go_wp2_with fail
     generalize(wr.alloc (.cells #[.int .i64 x.kind,.int .i64 x.int,.int .i64 x.gen,.string x.name,.string x.func,.int .i64 x.arity,.slice ai x.items.length ci,.string x.bytes,.int .i64 x.bits] 44))=wa at *
     generalize wr.heap.size=C at *
     obtain⟨q0',q1',q2',q3',q4',q5',q6',q7',q8',z1⟩:=term_cells hca
     have hCs:=lt_of_row hca
     have HCA:=Lib.hid hca;clear hca z1 q0 q1 q2 q3 q4 q5 q6 q7 q8 p0 p1 p2 p3 p4 p5 p6 p7 p8
     first|go_region_held3 (fun w'=>((w'.cell? ⟨C,0,none⟩=some (.int .i64 x.kind)/\w'.cell? ⟨C,1,none⟩=some (.int .i64 x.int)/\w'.cell? ⟨C,2,none⟩=some (.int .i64 x.gen)/\w'.cell? ⟨C,3,none⟩=some (.string x.name)/\w'.cell? ⟨C,4,none⟩=some (.string x.func)/\w'.cell? ⟨C,5,none⟩=some (.int .i64 x.arity)/\w'.cell? ⟨C,6,none⟩=some (.slice ai x.items.length ci)/\w'.cell? ⟨C,7,none⟩=some (.string x.bytes)/\w'.cell? ⟨C,8,none⟩=some (.int .i64 x.bits))/\(w'.cell? ⟨b2,off2+k*9,none⟩=some (.int .i64 y.kind)/\w'.cell? ⟨b2,off2+k*9+1,none⟩=some (.int .i64 y.int)/\w'.cell? ⟨b2,off2+k*9+2,none⟩=some (.int .i64 y.gen)/\w'.cell? ⟨b2,off2+k*9+3,none⟩=some (.string y.name)/\w'.cell? ⟨b2,off2+k*9+4,none⟩=some (.string y.func)/\w'.cell? ⟨b2,off2+k*9+5,none⟩=some (.int .i64 y.arity)/\w'.cell? ⟨b2,off2+k*9+6,none⟩=some (.slice bi y.items.length di)/\w'.cell? ⟨b2,off2+k*9+7,none⟩=some (.string y.bytes)/\w'.cell? ⟨b2,off2+k*9+8,none⟩=some (.int .i64 y.bits)))) (((repeat' apply And.intro)<;>assumption)) ((go_at_call 151;refine hSM.mono ?_;rintro e w5 ⟨rfl,hb5⟩;obtain⟨r0,r1,r2,r3,r4,r5,r6,r7,r8,_⟩:=term_cells ((hb5.block C hCs).trans HCA.out);have s0:=(hb5.cell (p:=⟨b2,off2+k*9,none⟩) hb2').trans p0';have s1:=(hb5.cell (p:=⟨b2,off2+k*9+1,none⟩) hb2').trans p1';have s2:=(hb5.cell (p:=⟨b2,off2+k*9+2,none⟩) hb2').trans p2';have s3:=(hb5.cell (p:=⟨b2,off2+k*9+3,none⟩) hb2').trans p3';have s4:=(hb5.cell (p:=⟨b2,off2+k*9+4,none⟩) hb2').trans p4';have s5:=(hb5.cell (p:=⟨b2,off2+k*9+5,none⟩) hb2').trans p5';have s6:=(hb5.cell (p:=⟨b2,off2+k*9+6,none⟩) hb2').trans p6';have s7:=(hb5.cell (p:=⟨b2,off2+k*9+7,none⟩) hb2').trans p7';have s8:=(hb5.cell (p:=⟨b2,off2+k*9+8,none⟩) hb2').trans p8'))|fail
     go_wp2_with fail
     go_ret
     exact⟨retb E.out.symm,HBX.out.drew.trans (hb5.mono HBS.out)⟩
   ·have E:Hid (sameL (sameF (f+1)) l m=true):=Lib.hid (by rw [HK.out];exact sameL_end (by omega) (by have:=HLM.out;omega))
    go_wp2_with fail
    go_ret
    exact⟨retb E.out.symm,hBw⟩
 ·have hlmb:((l.length:Int)!=(m.length:Int))=true:=by rw [bne_iff_ne];omega
  have E:Hid (sameL (sameF (f+1)) l m=false):=Lib.hid (sameL_len hlm)
  clear ha hb hlm
  go_enter Tryz.func183,Tryz.ntmps183
  go_wp2_with fail
  go_ret
  exact⟨retb E.out.symm,Below.refl _ _⟩
theorem alike_all: ∀f,AlikeP f
 |0=>alike_zero
 |f+1=>alike_succ (Lib.hid (same_of (Lib.hid (alike_all f))))
theorem same_any (f:Nat):SameP f:=same_of (Lib.hid (alike_all f))
def leftT (t:Tm):Tm:=
 if t.kind=1 then .mk t.kind 0 t.gen t.name t.func t.arity t.items t.bytes t.bits else if t.kind=2 then .mk t.kind t.int t.gen ⟨#[]⟩ t.func t.arity t.items t.bytes t.bits else if t.kind=3 then .mk t.kind 0 0 ⟨#[]⟩ t.func t.arity t.items t.bytes t.bits else if t.kind=4 then .mk t.kind 0 0 ⟨#[]⟩ t.func 0 [] t.bytes t.bits else if t.kind=5 then .mk t.kind t.int t.gen ⟨#[]⟩ ⟨#[]⟩ 0 t.items t.bytes t.bits else if t.kind=6 then .mk t.kind 0 0 ⟨#[]⟩ t.func t.arity t.items t.bytes t.bits else if t.kind=7 then .mk t.kind t.int t.gen t.name t.func t.arity [] t.bytes t.bits else if t.kind=8 then .mk t.kind t.int t.gen t.name t.func t.arity t.items t.bytes t.bits else if t.kind=9 then .mk t.kind t.int t.gen t.name t.func t.arity [] t.bytes t.bits else if t.kind=10 then .mk t.kind t.int t.gen t.name t.func t.arity t.items ⟨#[]⟩ 0 else t
def zeroTm:Tm:=.mk 0 0 0 ⟨#[]⟩ ⟨#[]⟩ 0 [] ⟨#[]⟩ 0
def left0 (t:Tm):Tm:=.mk 0 (leftT t).int (leftT t).gen (leftT t).name (leftT t).func (leftT t).arity (leftT t).items (leftT t).bytes (leftT t).bits
theorem zS_is (s:ByteArray):(s.toList==(ByteArray.mk #[]).toList)=zS s:=by
 unfold zS
 rw [ByteArray.toList_eq,ByteArray.toList_eq]
 rw [Bool.eq_iff_iff,beq_iff_eq,decide_eq_true_eq]
 constructor
 ·intro h
  have h2:s.data.toList.length=0:=congrArg List.length h
  rw [Array.length_toList]at h2;exact h2
 ·intro h
  have:s.data.size=0:=h
  have:s.data=#[]:=Array.eq_empty_of_size_eq_zero this
  rw [this]
theorem zI_is (n:Int):(n==0)=zI n:=by unfold zI;rw [Bool.eq_iff_iff,beq_iff_eq,decide_eq_true_eq]
theorem zL_is (rec:Tm->Tm->Bool) (l:List Tm):sameL rec l []=zL l:=by cases l<;>rfl
theorem zS_nil:zS (ByteArray.mk #[])=true:=rfl
theorem zI_nil:zI 0=true:=rfl
theorem zL_nil:zL []=true:=rfl
theorem same_zero (f:Nat) (a:Tm):sameF (f+1) a zeroTm=(zI a.kind&&(zI a.int&&(zI a.gen&&(zS a.name&&(zS a.func&&(zI a.arity&&(zS a.bytes&&zI a.bits))))))&&zL a.items):=by
 unfold sameF flatB zeroTm
 simp only [Tm.kind,Tm.int,Tm.gen,Tm.name,Tm.func,Tm.arity,Tm.items,Tm.bytes,Tm.bits,zS_is,zI_is,zL_is]
theorem okK_none {t:Tm} (h: ¬(t.kind=1\/t.kind=2\/t.kind=3\/t.kind=4\/t.kind=5\/t.kind=6\/t.kind=7\/t.kind=8\/t.kind=9\/t.kind=10)):okK t=false:=by
 unfold okK
 simp only [not_or]at h
 obtain⟨h1,h2,h3,h4,h5,h6,h7,h8,h9,h10⟩:=h
 rw [if_neg h1,if_neg h2,if_neg (by omega),if_neg h4,if_neg h5,if_neg h7,if_neg h8,if_neg h9,if_neg h10]
theorem nat_le (n m:Nat):decide (n<=m)=decide ((n:Int)<=(m:Int)):=by rw [Bool.eq_iff_iff,decide_eq_true_eq,decide_eq_true_eq];omega
theorem loc_of (f:Nat) (t:Tm):(okK t&&sameF (f+1) (left0 t) zeroTm)=locB t:=by
 rw [same_zero]
 obtain⟨tk,ti,tg,tn,tf,ta,tl,ty,tz⟩:=t
 by_cases h:tk=1\/tk=2\/tk=3\/tk=4\/tk=5\/tk=6\/tk=7\/tk=8\/tk=9\/tk=10
 ·unfold left0 locB
  rcases h with rfl|rfl|rfl|rfl|rfl|rfl|rfl|rfl|rfl|rfl
  all_goals
   generalize okK (Tm.mk _ ti tg tn tf ta tl ty tz)=q
   simp only [leftT,zeroK,Tm.kind,Tm.int,Tm.gen,Tm.name,Tm.func,Tm.arity,Tm.items,Tm.bytes,Tm.bits]
   simp [zS_nil,zI_nil,zL_nil]
   try(cases q<;>cases zI ti<;>cases zI tg<;>cases zS tn<;>cases zS tf<;>cases zI ta<;>cases zL tl<;>cases zS ty<;>cases zI tz<;>rfl)
 ·have:okK (Tm.mk tk ti tg tn tf ta tl ty tz)=false:=okK_none h
  unfold locB
  rw [this,Bool.false_and,Bool.false_and]
def KindQ (w0 w:World) (f:Nat) (t:Tm) (e:Ending) (w':World):Prop:= ∃so' c',e= .returned (.tuple #[.agg #[.int .i64 (leftT t).kind,.int .i64 (leftT t).int,.int .i64 (leftT t).gen,.string (leftT t).name,.string (leftT t).func,.int .i64 (leftT t).arity,.slice so' (leftT t).items.length c',.string (leftT t).bytes,.int .i64 (leftT t).bits],.bool (okK t)]) /\
 SlAt w0 9 (TmAt w0 f) so' (leftT t).items/\Below w.heap.size w w'
section
variable (t:Tm) (so:Option Addr) (c f:Nat) (w0 w:World)
theorem kindQ_0 (hs:SlAt w0 9 (TmAt w0 f) so t.items) (hk:t.kind=0):Calls Tryz.prog 142 #[.agg #[.int .i64 t.kind,.int .i64 t.int,.int .i64 t.gen,.string t.name,.string t.func,.int .i64 t.arity,.slice so t.items.length c,.string t.bytes,.int .i64 t.bits]] w (KindQ w0 w f t):=by
 have e1:leftT t=t:=by unfold leftT;simp [hk]
 have e2:okK t=false:=by unfold okK;simp [hk]
 refine(kind_none t.kind t.int t.gen t.name t.func t.arity so t.items.length c t.bytes t.bits w).mono ?_
 rintro e w' ⟨rfl,hb'⟩
 refine⟨so,c,?_,?_,hb'⟩
 ·(rw [e1,e2])<;>rfl
 ·rw [e1];exact hs
theorem kindQ_1 (hs:SlAt w0 9 (TmAt w0 f) so t.items) (hk:t.kind=1):Calls Tryz.prog 143 #[.agg #[.int .i64 t.kind,.int .i64 t.int,.int .i64 t.gen,.string t.name,.string t.func,.int .i64 t.arity,.slice so t.items.length c,.string t.bytes,.int .i64 t.bits]] w (KindQ w0 w f t):=by
 have e1:leftT t= .mk t.kind 0 t.gen t.name t.func t.arity t.items t.bytes t.bits:=by unfold leftT;simp [hk]
 have e2:okK t=true:=by unfold okK;simp [hk]
 refine(kind_int t.kind t.int t.gen t.name t.func t.arity so t.items.length c t.bytes t.bits w).mono ?_
 rintro e w' ⟨rfl,hb'⟩
 refine⟨so,c,?_,?_,hb'⟩
 ·(rw [e1,e2])<;>rfl
 ·rw [e1];exact hs
theorem kindQ_2 (hs:SlAt w0 9 (TmAt w0 f) so t.items) (hk:t.kind=2):Calls Tryz.prog 144 #[.agg #[.int .i64 t.kind,.int .i64 t.int,.int .i64 t.gen,.string t.name,.string t.func,.int .i64 t.arity,.slice so t.items.length c,.string t.bytes,.int .i64 t.bits]] w (KindQ w0 w f t):=by
 have e1:leftT t= .mk t.kind t.int t.gen ⟨#[]⟩ t.func t.arity t.items t.bytes t.bits:=by unfold leftT;simp [hk]
 have e2:okK t=nameB t.name:=by unfold okK;simp [hk]
 refine(kind_atom t.kind t.int t.gen t.name t.func t.arity so t.items.length c t.bytes t.bits w).mono ?_
 rintro e w' ⟨rfl,hb'⟩
 refine⟨so,c,?_,?_,hb'⟩
 ·(rw [e1,e2])<;>rfl
 ·rw [e1];exact hs
theorem kindQ_3 (hs:SlAt w0 9 (TmAt w0 f) so t.items) (hk:t.kind=3):Calls Tryz.prog 140 #[.agg #[.int .i64 t.kind,.int .i64 t.int,.int .i64 t.gen,.string t.name,.string t.func,.int .i64 t.arity,.slice so t.items.length c,.string t.bytes,.int .i64 t.bits]] w (KindQ w0 w f t):=by
 have e1:leftT t= .mk t.kind 0 0 ⟨#[]⟩ t.func t.arity t.items t.bytes t.bits:=by unfold leftT;simp [hk]
 have e2:okK t=(wi t.int 1 2147483647&&wi t.gen 1 2147483647&&nameB t.name):=by unfold okK;simp [hk]
 refine(kind_num t.kind t.int t.gen t.name t.func t.arity so t.items.length c t.bytes t.bits w).mono ?_
 rintro e w' ⟨rfl,hb'⟩
 refine⟨so,c,?_,?_,hb'⟩
 ·(rw [e1,e2])<;>rfl
 ·rw [e1];exact hs
theorem kindQ_4 (hs:SlAt w0 9 (TmAt w0 f) so t.items) (hk:t.kind=4):Calls Tryz.prog 145 #[.agg #[.int .i64 t.kind,.int .i64 t.int,.int .i64 t.gen,.string t.name,.string t.func,.int .i64 t.arity,.slice so t.items.length c,.string t.bytes,.int .i64 t.bits]] w (KindQ w0 w f t):=by
 have e1:leftT t= .mk t.kind 0 0 ⟨#[]⟩ t.func 0 [] t.bytes t.bits:=by unfold leftT;simp [hk]
 have e2:okK t=(wi t.int 0 999&&wi t.gen 1 2147483647&&nameB t.name&&wi t.arity 0 16&&decide ((t.items.length:Int)<=(200:Nat))):=by rw [<-nat_le];unfold okK;simp [hk]
 refine(kind_closure t.kind t.int t.gen t.name t.func t.arity so t.items.length c t.bytes t.bits w).mono ?_
 rintro e w' ⟨rfl,hb'⟩
 refine⟨none,0,?_,?_,hb'⟩
 ·(rw [e1,e2])<;>rfl
 ·rw [e1];exact SlAt.nil w0 9 _ none
theorem kindQ_5 (hs:SlAt w0 9 (TmAt w0 f) so t.items) (hk:t.kind=5):Calls Tryz.prog 146 #[.agg #[.int .i64 t.kind,.int .i64 t.int,.int .i64 t.gen,.string t.name,.string t.func,.int .i64 t.arity,.slice so t.items.length c,.string t.bytes,.int .i64 t.bits]] w (KindQ w0 w f t):=by
 have e1:leftT t= .mk t.kind t.int t.gen ⟨#[]⟩ ⟨#[]⟩ 0 t.items t.bytes t.bits:=by unfold leftT;simp [hk]
 have e2:okK t=(nameB t.name&&nameB t.func&&wi t.arity 0 16):=by unfold okK;simp [hk]
 refine(kind_export t.kind t.int t.gen t.name t.func t.arity so t.items.length c t.bytes t.bits w).mono ?_
 rintro e w' ⟨rfl,hb'⟩
 refine⟨so,c,?_,?_,hb'⟩
 ·(rw [e1,e2])<;>rfl
 ·rw [e1];exact hs
theorem kindQ_6 (hs:SlAt w0 9 (TmAt w0 f) so t.items) (hk:t.kind=6):Calls Tryz.prog 140 #[.agg #[.int .i64 t.kind,.int .i64 t.int,.int .i64 t.gen,.string t.name,.string t.func,.int .i64 t.arity,.slice so t.items.length c,.string t.bytes,.int .i64 t.bits]] w (KindQ w0 w f t):=by
 have e1:leftT t= .mk t.kind 0 0 ⟨#[]⟩ t.func t.arity t.items t.bytes t.bits:=by unfold leftT;simp [hk]
 have e2:okK t=(wi t.int 1 2147483647&&wi t.gen 1 2147483647&&nameB t.name):=by unfold okK;simp [hk]
 refine(kind_num t.kind t.int t.gen t.name t.func t.arity so t.items.length c t.bytes t.bits w).mono ?_
 rintro e w' ⟨rfl,hb'⟩
 refine⟨so,c,?_,?_,hb'⟩
 ·(rw [e1,e2])<;>rfl
 ·rw [e1];exact hs
theorem kindQ_7 (hs:SlAt w0 9 (TmAt w0 f) so t.items) (hk:t.kind=7):Calls Tryz.prog 147 #[.agg #[.int .i64 t.kind,.int .i64 t.int,.int .i64 t.gen,.string t.name,.string t.func,.int .i64 t.arity,.slice so t.items.length c,.string t.bytes,.int .i64 t.bits]] w (KindQ w0 w f t):=by
 have e1:leftT t= .mk t.kind t.int t.gen t.name t.func t.arity [] t.bytes t.bits:=by unfold leftT;simp [hk]
 have e2:okK t=decide ((t.items.length:Int)<=(255:Nat)):=by rw [<-nat_le];unfold okK;simp [hk]
 refine(kind_tuple t.kind t.int t.gen t.name t.func t.arity so t.items.length c t.bytes t.bits w).mono ?_
 rintro e w' ⟨rfl,hb'⟩
 refine⟨none,0,?_,?_,hb'⟩
 ·(rw [e1,e2])<;>rfl
 ·rw [e1];exact SlAt.nil w0 9 _ none
theorem kindQ_8 (hs:SlAt w0 9 (TmAt w0 f) so t.items) (hk:t.kind=8):Calls Tryz.prog 148 #[.agg #[.int .i64 t.kind,.int .i64 t.int,.int .i64 t.gen,.string t.name,.string t.func,.int .i64 t.arity,.slice so t.items.length c,.string t.bytes,.int .i64 t.bits]] w (KindQ w0 w f t):=by
 have e1:leftT t= .mk t.kind t.int t.gen t.name t.func t.arity t.items t.bytes t.bits:=by unfold leftT;simp [hk]
 have e2:okK t=true:=by unfold okK;simp [hk]
 refine(kind_nil t.kind t.int t.gen t.name t.func t.arity so t.items.length c t.bytes t.bits w).mono ?_
 rintro e w' ⟨rfl,hb'⟩
 refine⟨so,c,?_,?_,hb'⟩
 ·(rw [e1,e2])<;>rfl
 ·rw [e1];exact hs
theorem kindQ_9 (hs:SlAt w0 9 (TmAt w0 f) so t.items) (hb:Below w0.heap.size w0 w) (hl:t.items.length<=maxLen) (hk:t.kind=9):Calls Tryz.prog 149 #[.agg #[.int .i64 t.kind,.int .i64 t.int,.int .i64 t.gen,.string t.name,.string t.func,.int .i64 t.arity,.slice so t.items.length c,.string t.bytes,.int .i64 t.bits]] w (KindQ w0 w f t):=by
 have e1:leftT t= .mk t.kind t.int t.gen t.name t.func t.arity [] t.bytes t.bits:=by unfold leftT;simp [hk]
 have e2:okK t=(decide (2<=t.items.length)&&decide (lastK t.items≠9)):=by unfold okK;simp [hk]
 by_cases h2:t.items.length<2
 ·refine(kind_list0 t.kind t.int t.gen t.name t.func t.arity so t.items.length c t.bytes t.bits w h2).mono ?_
  rintro e w' ⟨rfl,hb'⟩
  refine⟨none,0,?_,?_,hb'⟩
  ·rw [e1,e2,decide_eq_false (by omega)];rfl
  ·rw [e1];exact SlAt.nil w0 9 _ none
 ·obtain⟨m,hm⟩: ∃m,t.items.length=m+2:=⟨t.items.length-2,by omega⟩
  have hm1:m+1<t.items.length:=by omega
  have hbf:=hs.row hm1
  obtain⟨b,off,rfl,hbl,hrow⟩:=hbf
  obtain⟨cs,_,hcs,hR⟩:=hrow (m+1) hm1
  have hcell:w.cell? ⟨b,off+(m+1)*9,none⟩=some (.int .i64 (t.items[m+1]).kind):=by
   refine(hb.cell (p:=⟨b,off+(m+1)*9,none⟩) hbl).trans ?_
   rw [show off+(m+1)*9=off+(m+1)*9+0 by rfl,hcs 0 (by decide)]
   cases f with
   |zero=>exact hR.elim
   |succ f=>obtain⟨⟨ai,ci,rfl,_⟩,_⟩:=hR;rfl
  have hk9:lastK t.items=(t.items[m+1]).kind:=by
   unfold lastK
   rw [List.getLast?_eq_getElem?,hm,show m+2-1=m+1 by rfl,List.getElem?_eq_getElem hm1]
  unfold maxLen at hl
  have h:=kind_list2 t.kind t.int t.gen t.name t.func t.arity c t.bytes t.bits w b off m (t.items[m+1]).kind (by omega) (Nat.lt_of_lt_of_le hbl hb.size) hcell
  rw [<-hm]at h
  refine h.mono ?_
  rintro e w' ⟨rfl,hb'⟩
  refine⟨none,0,?_,?_,hb'⟩
  ·rw [e1, e2, decide_eq_true (by omega), hk9, Bool.true_and, show (t.items[m + 1].kind != 9) = decide (t.items[m + 1].kind ≠ 9) by (rw [Bool.eq_iff_iff, bne_iff_ne, decide_eq_true_eq])]; rfl
  ·rw [e1];exact SlAt.nil w0 9 _ none
theorem kindQ_10 (hs:SlAt w0 9 (TmAt w0 f) so t.items) (hy:t.bytes.size<=maxLen) (hz:I64 t.bits) (hk:t.kind=10):Calls Tryz.prog 150 #[.agg #[.int .i64 t.kind,.int .i64 t.int,.int .i64 t.gen,.string t.name,.string t.func,.int .i64 t.arity,.slice so t.items.length c,.string t.bytes,.int .i64 t.bits]] w (KindQ w0 w f t):=by
 have e1:leftT t= .mk t.kind t.int t.gen t.name t.func t.arity t.items ⟨#[]⟩ 0:=by unfold leftT;simp [hk]
 have e2:okK t=bitsV t.bytes t.bits:=by unfold okK bitsB;simp [hk]
 refine(kind_bits t.kind t.int t.gen t.name t.func t.arity so t.items.length c t.bytes t.bits w hy hz).mono ?_
 rintro e w' ⟨rfl,hb'⟩
 refine⟨so,c,?_,?_,hb'⟩
 ·(rw [e1,e2])<;>rfl
 ·rw [e1];exact hs
end
end Go.Proofs.YtponljdhfoipjaaGreatDoor
