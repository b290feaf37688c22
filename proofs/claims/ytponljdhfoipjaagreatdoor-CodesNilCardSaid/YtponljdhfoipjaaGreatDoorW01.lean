import Derived.IntWalk
import Derived.Below
import Derived.Laws.Wrap64
import Derived.WalkKit
import Derived.ChangeArms
import Derived.DataReads
import Derived.Lib.Hide
import Derived.WalkSpells
import Derived.WalkLawsBesides
import Derived.Handy
import Derived.Deep.QuietTactic
import Derived.BigQuiet
import Derived.Laws.ResultCell
import Derived.Laws.Rows
import Derived.Deep.RegionHeld3
import Derived.Maps.OwnOps
import Derived.Maps.OwnSet
import Derived.Maps.Views
import Derived.Laws.AppendOwn
import Derived.Laws.NewBlocks
import Derived.Laws.Tables
import Derived.Deep.AppendLies
import Derived.Deep.Draws
import Derived.Laws.CopyOwn
import Derived.Deep.DeepCutAuto
import Derived.Shelf.Small.Utf8
import Derived.Shelf.Small.Bits
import Derived.Shelf.Small.Strs
import Derived.Shelf.Small.Wraps
import Derived.Shelf.Strconv.Itoa0
import Derived.Shelf.Strings.Search1
import Derived.Shelf.Strings.Search2
import Derived.Shelf.Strings.Search3
import Derived.Shelf.LaysM
import Derived.Shelf.Strings.Shaped
import Derived.Shelf.Sort.Plain
import Derived.Shelf.Strings.Fields
import Derived.Shelf.Strings.SplitShaped
import Derived.Shelf.Unicode.Latin
import Derived.Shelf.Strings.Runes
import Derived.Shelf.Strings.AsciiSet
import Derived.Shelf.Unicode.DecodeSlow
import Derived.Shelf.Unicode.Is16White
import Derived.Shelf.Unicode.IsSpaceAny
import Derived.Shelf.Unicode.Is16Any
import Derived.Shelf.Unicode.Is32Any
import Derived.Shelf.Unicode.ExclAny
import Derived.Shelf.Slices.Equal
import Derived.Ground.Names2Prog
import Derived.Shelf.Slices.Clone
import Derived.Shelf.Slices.CompactI
import Derived.Shelf.Slices.SearchI
import Derived.Shelf.Slices.Cells
import Derived.Shelf.Slices.In.SortNone
import Derived.Shelf.Slices.Empties2
import Derived.Ground.SlgnProg
import Derived.Shelf.SlicesE.Clone
import Derived.OrdersHeld
import Derived.Deep.RegionHeld
import Derived.KernelRfl
import Derived.Tactics
import Derived.Deep.CutBlock
import Derived.DeepKeys4
import Derived.WideKeyPair
import Derived.Lib.SmallJoins
import Derived.Deep.Cut
import Derived.Laws.RangeAny
import Derived.Laws.RangeString
import Derived.RegionTactic
import Derived.BigRegion
import Derived.Laws.EntriesVeiled
import Derived.Great.BuildSlice
import Derived.Orders
import Derived.Laws.OwnMore
import Derived.Laws.MakeOwn
import Derived.RangeFuncBox
import Derived.RangeFuncLeaves
import Derived.Shelf.Abstract
import Derived.OwnWalkIn
import Derived.TacticsInMore
import Derived.LoopNIn
import Derived.LoopIn
import Derived.Maps.AppendAt
import Derived.RangeFuncNested
import Derived.Sort.OwnSortedInts
import Derived.StillTailTactics
import Derived.Lib.LaidU8
import Derived.Stop.LaidErr
import Derived.Deep.DeepHandedRow
import Derived.Deep.DeepLaidRun
import Derived.Deep.DeepWitnessRowRef
import Derived.ProofKit
import Derived.OpenShut
import Derived.ShutString
import Derived.Test.YtponljdhfoipjaaGreatDoorProg
namespace Go.Proofs.YtponljdhfoipjaaGreatDoor
open Go.RowKit
set_option linter.unusedVariables false
set_option linter.unusedSimpArgs false
set_option maxRecDepth 100000
set_option maxHeartbeats 0
theorem zzK3{p0 p1 p2 G:Prop}(a0:p0)(a1:p1)(a2:p2)(h:Hid p0->Hid p1->Hid p2->G):G:=h a0 a1 a2
theorem zzK4{p0 p1 p2 p3 G:Prop}(a0:p0)(a1:p1)(a2:p2)(a3:p3)(h:Hid p0->Hid p1->Hid p2->Hid p3->G):G:=h a0 a1 a2 a3
theorem zzK5{p0 p1 p2 p3 p4 G:Prop}(a0:p0)(a1:p1)(a2:p2)(a3:p3)(a4:p4)(h:Hid p0->Hid p1->Hid p2->Hid p3->Hid p4->G):G:=h a0 a1 a2 a3 a4
theorem zzK6{p0 p1 p2 p3 p4 p5 G:Prop}(a0:p0)(a1:p1)(a2:p2)(a3:p3)(a4:p4)(a5:p5)(h:Hid p0->Hid p1->Hid p2->Hid p3->Hid p4->Hid p5->G):G:=h a0 a1 a2 a3 a4 a5
theorem zzK7{p0 p1 p2 p3 p4 p5 p6 G:Prop}(a0:p0)(a1:p1)(a2:p2)(a3:p3)(a4:p4)(a5:p5)(a6:p6)(h:Hid p0->Hid p1->Hid p2->Hid p3->Hid p4->Hid p5->Hid p6->G):G:=h a0 a1 a2 a3 a4 a5 a6
theorem zzK8{p0 p1 p2 p3 p4 p5 p6 p7 G:Prop}(a0:p0)(a1:p1)(a2:p2)(a3:p3)(a4:p4)(a5:p5)(a6:p6)(a7:p7)(h:Hid p0->Hid p1->Hid p2->Hid p3->Hid p4->Hid p5->Hid p6->Hid p7->G):G:=h a0 a1 a2 a3 a4 a5 a6 a7
abbrev zzA:=Option Addr
theorem zzE(w:World)(c:Obj):Below w.heap.size w (w.alloc c):=(Below.refl _ _).alloc (Nat.le_refl _) _
theorem zzV(n:Nat)(h:n<=9223372036854775807):IntKind.i64.wrap ((n:Int)-1)=(n:Int)-1:=by rw [IntKind.wrap_i64];omega
def I64 (z:Int):Prop:= -9223372036854775808<=z/\z<=9223372036854775807
instance (z:Int):Decidable (I64 z):=by unfold I64;infer_instance
theorem retb {a b:Bool} (h:a=b):Ending.returned (.bool a)= .returned (.bool b):=by rw [h]
theorem ret1 {k:IntKind} {a b:Int} (h:a=b):Ending.returned (.int k a)= .returned (.int k b):=by rw [h]
theorem wrap_i64 (z:Int):I64 (wrap64 z):=by unfold I64 wrap64;omega
def hi (y:Int) (k:Nat):Int:= -y/2^k
inductive Tm where
 |mk (kind int gen:Int) (name func:ByteArray) (arity:Int) (items:List Tm) (bytes:ByteArray) (bits:Int)
namespace Tm
def kind:Tm->Int|.mk a _ _ _ _ _ _ _ _=>a
def int:Tm->Int|.mk _ a _ _ _ _ _ _ _=>a
def gen:Tm->Int|.mk _ _ a _ _ _ _ _ _=>a
def name:Tm->ByteArray|.mk _ _ _ a _ _ _ _ _=>a
def func:Tm->ByteArray|.mk _ _ _ _ a _ _ _ _=>a
def arity:Tm->Int|.mk _ _ _ _ _ a _ _ _=>a
def items:Tm->List Tm|.mk _ _ _ _ _ _ a _ _=>a
def bytes:Tm->ByteArray|.mk _ _ _ _ _ _ _ a _=>a
def bits:Tm->Int|.mk _ _ _ _ _ _ _ _ a=>a
def Ok (t:Tm):Prop:=I64 t.kind/\I64 t.int/\I64 t.gen/\t.name.size<=maxLen/\t.func.size<=maxLen/\I64 t.arity/\t.items.length<=maxLen/\t.bytes.size<=maxLen/\I64 t.bits
end Tm
structure RArg where
 kind:Int
 n:Int
structure RCase where
 lit:Int
 «to»:Int
structure RSeg where
 type:Int
 val:RArg
 size:RArg
 little:Bool
structure RIns where
 op:Int
 dst:RArg
 src:List RArg
 «to»:Int
 n:Int
 live:Int
 name:ByteArray
 cases:List RCase
 segs:List RSeg
structure RFunc where
 name:ByteArray
 arity:Int
 pub:Bool
 entry:Int
structure RFun where
 arity:Int
 free:Int
 entry:Int
structure RUnit where
 mdl:ByteArray
 vsn:Int
 lits:List Tm
 funcs:List RFunc
 funs:List RFun
 code:List RIns
def SlAt {α:Type} (w:World) (size:Nat) (R:List Value->α->Prop) (ao:Option Addr) (l:List α):Prop:=
 l= []\/ ∃b off,ao=some ⟨b,off,none⟩/\b<w.heap.size/\ ∀j (h:j<l.length),∃cs:List Value,cs.length=size/\(∀i,i<size->w.cell? ⟨b,off+j*size+i,none⟩=cs[i]?)/\R cs l[j]
theorem SlAt.mono {α:Type} {w w':World} {size:Nat} {R R':List Value->α->Prop} {ao:zzA} {l:List α} (h:SlAt w size R ao l) (hb:Below w.heap.size w w') (hR: ∀cs a,R cs a->R' cs a):SlAt w' size R' ao l:=by
 rcases h with h|⟨b,off,e,hB,hr⟩
 ·exact .inl h
 ·refine .inr ⟨b,off,e,Nat.lt_of_lt_of_le hB hb.size,fun j hj=>?_⟩
  obtain⟨cs,hl,hc,hR'⟩:=hr j hj
  exact⟨cs,hl,fun i hi=>(hb.cell (p:=⟨b,off+j*size+i,none⟩) hB).trans (hc i hi),hR _ _ hR'⟩
theorem SlAt.row {α:Type} {w:World} {size:Nat} {R:List Value->α->Prop} {ao:zzA} {l:List α} (h:SlAt w size R ao l) {k:Nat} (hk:k<l.length):
  ∃b off,ao=some ⟨b,off,none⟩/\b<w.heap.size/\ ∀j (h:j<l.length),∃cs:List Value,cs.length=size/\(∀i,i<size->w.cell? ⟨b,off+j*size+i,none⟩=cs[i]?)/\R cs l[j]:=by
 rcases h with h|h
 ·rw [h]at hk;exact absurd hk (Nat.not_lt_zero _)
 ·exact h
theorem SlAt.nil {α:Type} (w:World) (size:Nat) (R:List Value->α->Prop) (ao:zzA):SlAt w size R ao []:=.inl rfl
def TmAt (w:World):Nat->List Value->Tm->Prop
 |0,_,_=>False
 |f+1,cs,t=>(∃ao c,cs= [.int .i64 t.kind,.int .i64 t.int,.int .i64 t.gen,.string t.name,.string t.func,.int .i64 t.arity,.slice ao t.items.length c,.string t.bytes,.int .i64 t.bits]/\SlAt w 9 (TmAt w f) ao t.items)/\t.Ok
theorem TmAt.below {w w':World} (hb:Below w.heap.size w w'): ∀{f:Nat} {cs:List Value} {t:Tm},TmAt w f cs t->TmAt w' f cs t
 |0,_,_,h=>h
 |_+1,_,_,⟨⟨ao,c,e,hs⟩,ho⟩=>⟨⟨ao,c,e,hs.mono hb fun _ _ h=>TmAt.below hb h⟩,ho⟩
theorem SlAt.imp {α:Type} {w:World} {size:Nat} {R R':List Value->α->Prop} {ao:zzA} {l:List α} (h:SlAt w size R ao l) (hR: ∀cs a,R cs a->R' cs a):SlAt w size R' ao l:=
 h.elim .inl fun⟨b,off,e,hB,hr⟩=>.inr ⟨b,off,e,hB,fun j hj=>(hr j hj).elim fun cs ⟨a,b,c⟩=>⟨cs,a,b,hR _ _ c⟩⟩
theorem TmAt.succ {w:World}: ∀{f:Nat} {cs:List Value} {t:Tm},TmAt w f cs t->TmAt w (f+1) cs t
 |0,_,_,h=>h.elim
 |f+1,_,_,⟨⟨ao,c,e,hs⟩,ho⟩=>⟨⟨ao,c,e,hs.imp fun _ _ h=>TmAt.succ h⟩,ho⟩
theorem TmAt.le {w:World} {f g:Nat} (h:f<=g) {cs:List Value} {t:Tm} (ht:TmAt w f cs t):TmAt w g cs t:=by
 induction h with
 |refl=>exact ht
 |step _ ih=>exact ih.succ
def TmA (w:World) (cs:List Value) (t:Tm):Prop:= ∃f,TmAt w f cs t
theorem TmA.below {w w':World} {cs:List Value} {t:Tm} (h:TmA w cs t) (hb:Below w.heap.size w w'):TmA w' cs t:=h.elim fun f h=>⟨f,h.below hb⟩
theorem TmAt.ok {w:World}: ∀{f:Nat} {cs:List Value} {t:Tm},TmAt w f cs t->t.Ok
 |0,_,_,h=>h.elim
 |_+1,_,_,⟨_,ho⟩=>ho
def ArgR (cs:List Value) (a:RArg):Prop:=cs= [.int .i64 a.kind,.int .i64 a.n]/\I64 a.kind/\I64 a.n
def CaseR (cs:List Value) (a:RCase):Prop:=cs= [.int .i64 a.lit,.int .i64 a.to]/\I64 a.lit/\I64 a.to
def SegR (cs:List Value) (a:RSeg):Prop:=cs= [.int .i64 a.type,.int .i64 a.val.kind,.int .i64 a.val.n,.int .i64 a.size.kind,.int .i64 a.size.n,.bool a.little]/\I64 a.type/\I64 a.val.kind/\I64 a.val.n/\I64 a.size.kind/\I64 a.size.n
def FuncR (cs:List Value) (a:RFunc):Prop:=cs= [.string a.name,.int .i64 a.arity,.bool a.pub,.int .i64 a.entry]/\a.name.size<=maxLen/\I64 a.arity/\I64 a.entry
def FunR (cs:List Value) (a:RFun):Prop:=cs= [.int .i64 a.arity,.int .i64 a.free,.int .i64 a.entry]/\I64 a.arity/\I64 a.free/\I64 a.entry
def InsR (w:World) (cs:List Value) (x:RIns):Prop:=
 (∃so sc co cc go gc,cs= [.int .i64 x.op,.int .i64 x.dst.kind,.int .i64 x.dst.n,.slice so x.src.length sc,.int .i64 x.to,.int .i64 x.n,.int .i64 x.live,.string x.name,.slice co x.cases.length cc,.slice go x.segs.length gc] /\
  SlAt w 2 ArgR so x.src/\SlAt w 2 CaseR co x.cases/\SlAt w 6 SegR go x.segs) /\
 I64 x.op/\I64 x.dst.kind/\I64 x.dst.n/\x.src.length<=maxLen/\I64 x.to/\I64 x.n/\I64 x.live/\x.name.size<=maxLen/\x.cases.length<=maxLen/\x.segs.length<=maxLen
theorem InsR.below {w w':World} {cs:List Value} {x:RIns} (h:InsR w cs x) (hb:Below w.heap.size w w'):InsR w' cs x:=by
 obtain⟨⟨so,sc,co,cc,go,gc,e,h1,h2,h3⟩,hr⟩:=h
 exact⟨⟨so,sc,co,cc,go,gc,e,h1.mono hb fun _ _ h=>h,h2.mono hb fun _ _ h=>h,h3.mono hb fun _ _ h=>h⟩,hr⟩
def UR (w:World) (cs:List Value) (u:RUnit):Prop:=
 (∃lo lc fo fc go gc co cc,cs= [.string u.mdl,.int .i64 u.vsn,.slice lo u.lits.length lc,.slice fo u.funcs.length fc,.slice go u.funs.length gc,.slice co u.code.length cc] /\
  SlAt w 9 (TmA w) lo u.lits/\SlAt w 4 FuncR fo u.funcs/\SlAt w 3 FunR go u.funs/\SlAt w 10 (InsR w) co u.code) /\
 u.mdl.size<=maxLen/\I64 u.vsn/\u.lits.length<=maxLen/\u.funcs.length<=maxLen/\u.funs.length<=maxLen/\u.code.length<=maxLen
theorem UR.below {w w':World} {cs:List Value} {u:RUnit} (h:UR w cs u) (hb:Below w.heap.size w w'):UR w' cs u:=by
 obtain⟨⟨lo,lc,fo,fc,go,gc,co,cc,e,h1,h2,h3,h4⟩,hr⟩:=h
 exact⟨⟨lo,lc,fo,fc,go,gc,co,cc,e,h1.mono hb fun _ _ h=>h.below hb,h2.mono hb fun _ _ h=>h,h3.mono hb fun _ _ h=>h,h4.mono hb fun _ _ h=>h.below hb⟩,hr⟩
section
variable {H:Type} {enc:TypeId × Value->H} {P:Program} {w:World} {base:Nat} {spare:Nat->Bool} {held:Bool}
end
theorem drop_step {α:Type} {l:List α} {k:Nat} (h:k<l.length):l.drop k=l[k]::l.drop (k+1):=List.drop_eq_getElem_cons h
def raises (op:Int):Bool:=decide (op∈([2,3,4,14,15,16,17,18,19,20,21,22,23,27,35,36]:List Int))
section
variable {w:World} {ao:Option Addr} {k:Nat}
theorem SlAt.tm {f:Nat} {l:List Tm} (h:SlAt w 9 (TmAt w (f+1)) ao l) (hk:k<l.length):
  ∃b off ai c,ao=some ⟨b,off,none⟩/\b<w.heap.size/\w.cell? ⟨b,off+k*9,none⟩=some (.int .i64 l[k].kind)/\w.cell? ⟨b,off+k*9+1,none⟩=some (.int .i64 l[k].int) /\
   w.cell? ⟨b,off+k*9+2,none⟩=some (.int .i64 l[k].gen)/\w.cell? ⟨b,off+k*9+3,none⟩=some (.string l[k].name)/\w.cell? ⟨b,off+k*9+4,none⟩=some (.string l[k].func) /\
   w.cell? ⟨b,off+k*9+5,none⟩=some (.int .i64 l[k].arity)/\w.cell? ⟨b,off+k*9+6,none⟩=some (.slice ai l[k].items.length c)/\w.cell? ⟨b,off+k*9+7,none⟩=some (.string l[k].bytes) /\
   w.cell? ⟨b,off+k*9+8,none⟩=some (.int .i64 l[k].bits)/\SlAt w 9 (TmAt w f) ai l[k].items/\l[k].Ok:=by
 obtain⟨b,off,e,hb,hr⟩:=h.row hk
 obtain⟨cs,_,hc,⟨ai,c,rfl,hs⟩,ho⟩:=hr k hk
 exact⟨b,off,ai,c,e,hb,hc 0 (by decide),hc 1 (by decide),hc 2 (by decide),hc 3 (by decide),hc 4 (by decide),hc 5 (by decide),hc 6 (by decide),hc 7 (by decide),hc 8 (by decide),hs,ho⟩
theorem SlAt.arg {l:List RArg} (h:SlAt w 2 ArgR ao l) (hk:k<l.length):
  ∃b off,ao=some ⟨b,off,none⟩/\b<w.heap.size/\w.cell? ⟨b,off+k*2,none⟩=some (.int .i64 l[k].kind)/\w.cell? ⟨b,off+k*2+1,none⟩=some (.int .i64 l[k].n)/\I64 l[k].kind/\I64 l[k].n:=by
 obtain⟨b,off,e,hb,hr⟩:=h.row hk
 obtain⟨cs,_,hc,rfl,h1,h2⟩:=hr k hk
 exact⟨b,off,e,hb,hc 0 (by decide),hc 1 (by decide),h1,h2⟩
theorem SlAt.case {l:List RCase} (h:SlAt w 2 CaseR ao l) (hk:k<l.length):
  ∃b off,ao=some ⟨b,off,none⟩/\b<w.heap.size/\w.cell? ⟨b,off+k*2,none⟩=some (.int .i64 l[k].lit)/\w.cell? ⟨b,off+k*2+1,none⟩=some (.int .i64 l[k].to)/\I64 l[k].lit/\I64 l[k].to:=by
 obtain⟨b,off,e,hb,hr⟩:=h.row hk
 obtain⟨cs,_,hc,rfl,h1,h2⟩:=hr k hk
 exact⟨b,off,e,hb,hc 0 (by decide),hc 1 (by decide),h1,h2⟩
theorem SlAt.seg {l:List RSeg} (h:SlAt w 6 SegR ao l) (hk:k<l.length):
  ∃b off,ao=some ⟨b,off,none⟩/\b<w.heap.size/\w.cell? ⟨b,off+k*6,none⟩=some (.int .i64 l[k].type)/\w.cell? ⟨b,off+k*6+1,none⟩=some (.int .i64 l[k].val.kind)/\w.cell? ⟨b,off+k*6+2,none⟩=some (.int .i64 l[k].val.n) /\
   w.cell? ⟨b,off+k*6+3,none⟩=some (.int .i64 l[k].size.kind)/\w.cell? ⟨b,off+k*6+4,none⟩=some (.int .i64 l[k].size.n)/\w.cell? ⟨b,off+k*6+5,none⟩=some (.bool l[k].little) /\
   I64 l[k].type/\I64 l[k].val.kind/\I64 l[k].val.n/\I64 l[k].size.kind/\I64 l[k].size.n:=by
 obtain⟨b,off,e,hb,hr⟩:=h.row hk
 obtain⟨cs,_,hc,rfl,h1⟩:=hr k hk
 exact⟨b,off,e,hb,hc 0 (by decide),hc 1 (by decide),hc 2 (by decide),hc 3 (by decide),hc 4 (by decide),hc 5 (by decide),h1⟩
theorem SlAt.func {l:List RFunc} (h:SlAt w 4 FuncR ao l) (hk:k<l.length):
  ∃b off,ao=some ⟨b,off,none⟩/\b<w.heap.size/\w.cell? ⟨b,off+k*4,none⟩=some (.string l[k].name)/\w.cell? ⟨b,off+k*4+1,none⟩=some (.int .i64 l[k].arity)/\w.cell? ⟨b,off+k*4+2,none⟩=some (.bool l[k].pub) /\
   w.cell? ⟨b,off+k*4+3,none⟩=some (.int .i64 l[k].entry)/\l[k].name.size<=maxLen/\I64 l[k].arity/\I64 l[k].entry:=by
 obtain⟨b,off,e,hb,hr⟩:=h.row hk
 obtain⟨cs,_,hc,rfl,h1⟩:=hr k hk
 exact⟨b,off,e,hb,hc 0 (by decide),hc 1 (by decide),hc 2 (by decide),hc 3 (by decide),h1⟩
theorem SlAt.fn {l:List RFun} (h:SlAt w 3 FunR ao l) (hk:k<l.length):
  ∃b off,ao=some ⟨b,off,none⟩/\b<w.heap.size/\w.cell? ⟨b,off+k*3,none⟩=some (.int .i64 l[k].arity)/\w.cell? ⟨b,off+k*3+1,none⟩=some (.int .i64 l[k].free)/\w.cell? ⟨b,off+k*3+2,none⟩=some (.int .i64 l[k].entry) /\
   I64 l[k].arity/\I64 l[k].free/\I64 l[k].entry:=by
 obtain⟨b,off,e,hb,hr⟩:=h.row hk
 obtain⟨cs,_,hc,rfl,h1⟩:=hr k hk
 exact⟨b,off,e,hb,hc 0 (by decide),hc 1 (by decide),hc 2 (by decide),h1⟩
theorem SlAt.ins {l:List RIns} (h:SlAt w 10 (InsR w) ao l) (hk:k<l.length):
  ∃b off so sc co cc go gc,ao=some ⟨b,off,none⟩/\b<w.heap.size/\w.cell? ⟨b,off+k*10,none⟩=some (.int .i64 l[k].op)/\w.cell? ⟨b,off+k*10+1,none⟩=some (.int .i64 l[k].dst.kind)/\w.cell? ⟨b,off+k*10+2,none⟩=some (.int .i64 l[k].dst.n) /\
   w.cell? ⟨b,off+k*10+3,none⟩=some (.slice so l[k].src.length sc)/\w.cell? ⟨b,off+k*10+4,none⟩=some (.int .i64 l[k].to)/\w.cell? ⟨b,off+k*10+5,none⟩=some (.int .i64 l[k].n)/\w.cell? ⟨b,off+k*10+6,none⟩=some (.int .i64 l[k].live) /\
   w.cell? ⟨b,off+k*10+7,none⟩=some (.string l[k].name)/\w.cell? ⟨b,off+k*10+8,none⟩=some (.slice co l[k].cases.length cc)/\w.cell? ⟨b,off+k*10+9,none⟩=some (.slice go l[k].segs.length gc) /\
   SlAt w 2 ArgR so l[k].src/\SlAt w 2 CaseR co l[k].cases/\SlAt w 6 SegR go l[k].segs /\
   I64 l[k].op/\I64 l[k].dst.kind/\I64 l[k].dst.n/\l[k].src.length<=maxLen/\I64 l[k].to/\I64 l[k].n/\I64 l[k].live/\l[k].name.size<=maxLen/\l[k].cases.length<=maxLen/\l[k].segs.length<=maxLen:=by
 obtain⟨b,off,e,hb,hr⟩:=h.row hk
 obtain⟨cs,_,hc,⟨so,sc,co,cc,go,gc,rfl,s1,s2,s3⟩,h1⟩:=hr k hk
 exact⟨b,off,so,sc,co,cc,go,gc,e,hb,hc 0 (by decide),hc 1 (by decide),hc 2 (by decide),hc 3 (by decide),hc 4 (by decide),hc 5 (by decide),hc 6 (by decide),hc 7 (by decide),hc 8 (by decide),hc 9 (by decide),s1,s2,s3,h1⟩
end
theorem below_next {w a b:World} (h:Below w.heap.size w a) (k:Below a.heap.size a b):Below w.heap.size w b:=h.trans (k.mono h.size)
theorem below_drewN {B:Nat} {a w:World} (h:Below B a w) (n:Nat):Below B a (w.drewN n):=⟨h.os,h.tape,h.output,h.size,h.block⟩
theorem SlAt.zero {w:World} {ao:zzA} {l:List Tm} (h:SlAt w 9 (TmAt w 0) ao l):l= []:=by
 rcases h with h|⟨b,off,e,hb,hr⟩
 ·exact h
 ·cases l with
  |nil=>rfl
  |cons t l=>
   obtain⟨cs,_,_,hf⟩:=hr 0 (by simp)
   exact hf.elim
theorem SlAt.tms {w w':World} {f:Nat} {ao:zzA} {l:List Tm} (h:SlAt w 9 (TmAt w f) ao l) (hb:Below w.heap.size w w'):SlAt w' 9 (TmAt w' f) ao l:=h.mono hb fun _ _ h=>h.below hb
theorem tms_depth {w:World} {ao:zzA} {l:List Tm} (h:SlAt w 9 (TmA w) ao l): ∃f,SlAt w 9 (TmAt w f) ao l:=by
 rcases h with h|⟨b,off,e,hb,hr⟩
 ·exact⟨0,.inl h⟩
 ·have: ∀m,m<=l.length-> ∃f,∀j (hj:j<l.length),j<m-> ∃cs:List Value,cs.length=9/\(∀i,i<9->w.cell? ⟨b,off+j*9+i,none⟩=cs[i]?)/\TmAt w f cs l[j]:=by
   intro m
   induction m with
   |zero=>exact fun _=>⟨0,fun j _ h=>absurd h (Nat.not_lt_zero _)⟩
   |succ m ih=>
    intro hm
    obtain⟨f,hf⟩:=ih (by omega)
    obtain⟨cs,h1,h2,g,h3⟩:=hr m (by omega)
    refine⟨max f g,fun j hj hjm=>?_⟩
    by_cases e:j=m
    ·subst e;exact⟨cs,h1,h2,TmAt.le (Nat.le_max_right _ _) h3⟩
    ·obtain⟨cs',a1,a2,a3⟩:=hf j hj (by omega)
     exact⟨cs',a1,a2,TmAt.le (Nat.le_max_left _ _) a3⟩
  obtain⟨f,hf⟩:=this l.length (Nat.le_refl _)
  exact⟨f,.inr ⟨b,off,e,hb,fun j hj=>hf j hj hj⟩⟩
theorem lt_of_row {w:World} {C:Nat} {o:Obj} (h:w.heap[C]?=some o):C<w.heap.size:=(Array.getElem?_eq_some_iff.1 h).1
def wi (n a b:Int):Bool:=decide (a<=n)&&decide (n<=b)
theorem wi_yes {n a b:Int} (h:a<=n) (h':n<=b):wi n a b=true:=by unfold wi;rw [decide_eq_true h,decide_eq_true h'];rfl
theorem wi_no {n a b:Int} (h: ¬(a<=n/\n<=b)):wi n a b=false:=by
 unfold wi
 by_cases h1:a<=n
 ·rw [decide_eq_true h1,decide_eq_false (fun h2=>h ⟨h1,h2⟩)];rfl
 ·rw [decide_eq_false h1];rfl
theorem results_row_tmp {fn:Func} {p u:Tmp} {ty:TypeId} (h:fn.results=#[.cell p ty,.tmp u]) (tmps:Array Value) (P:Program) (w:World) (g:Nat) (t:TypeId) (cs:Array Value) (fr:Nat × Nat) (fs:Array Field)
  (hp:tmps.getD p undef= .pointer (some ⟨g,0,none⟩)) (hg:w.heap[g]?=some (.cells cs t fr))
  (hu:P.underlying ty=some (.struct fs)) (hi:(P.info? ty).map (·.size)=some cs.size):
  (results fn tmps).run P w= .ok (.tuple #[.agg cs,tmps.getD u undef]) w:=by
 have hl:=run_loadVar_row w g t ty cs fr (.struct fs) hg hu rfl hi
 rw [results_cell_tmp h,hp]
 simp [asAddr,hl,Result.andThen]
def opTwo:List (List UInt8):=[[43],[42],[100,105,118],[114,101,109],[98,97,110,100],[98,111,114],[98,120,111,114],[98,115,108],[98,115,114],[97,110,100],[111,114],[120,111,114],[61,58,61],[61,47,61],[60],[61,60],[62],[62,61],[43,43]]
def operB (s:ByteArray) (n:Int):Bool:=
 if s.toList== [45]then n==1||n==2 else if s.toList== [98,110,111,116]||s.toList== [110,111,116]then n==1 else if opTwo.any (fun x=>s.toList==x)then n==2 else false
structure UP (w:World) (u:RUnit) (lo fo go co:Option Addr):Prop where
 lits:SlAt w 9 (TmA w) lo u.lits
 funcs:SlAt w 4 FuncR fo u.funcs
 funs:SlAt w 3 FunR go u.funs
 code:SlAt w 10 (InsR w) co u.code
 mdlLen:u.mdl.size<=9223372036854775807
 vsn:I64 u.vsn
 litsLen:u.lits.length<=9223372036854775807
 funcsLen:u.funcs.length<=9223372036854775807
 funsLen:u.funs.length<=9223372036854775807
 codeLen:u.code.length<=9223372036854775807
theorem UP.below {w w':World} {u:RUnit} {lo fo go co:zzA} (h:UP w u lo fo go co) (hb:Below w.heap.size w w'):UP w' u lo fo go co:=
 ⟨h.lits.mono hb fun _ _ h=>h.below hb,h.funcs.mono hb fun _ _ h=>h,h.funs.mono hb fun _ _ h=>h,h.code.mono hb fun _ _ h=>h.below hb,h.mdlLen,h.vsn,h.litsLen,h.funcsLen,h.funsLen,h.codeLen⟩
structure UBox (w:World) (B:Nat) (u:RUnit) (lo fo go co:Option Addr) (lc fc gc cc:Nat):Prop where
 box:w.heap[B]?=some (.cells #[.string u.mdl,.int .i64 u.vsn,.slice lo u.lits.length lc,.slice fo u.funcs.length fc,.slice go u.funs.length gc,.slice co u.code.length cc] 31 (0,0))
section
variable {w:World} {B:Nat} {u:RUnit} {lo fo go co:Option Addr} {lc fc gc cc:Nat}
theorem UBox.lt (h:UBox w B u lo fo go co lc fc gc cc):B<w.heap.size:=lt_of_row h.box
theorem UBox.below {w':World} (h:UBox w B u lo fo go co lc fc gc cc) (hb:Below w.heap.size w w'):UBox w' B u lo fo go co lc fc gc cc:=⟨(hb.block B h.lt).trans h.box⟩
theorem UBox.c0 (h:UBox w B u lo fo go co lc fc gc cc):w.cell? ⟨B,0,none⟩=some (.string u.mdl):=by rw [cell_of_row _ _ _ _ _ _ h.box];rfl
theorem UBox.c1 (h:UBox w B u lo fo go co lc fc gc cc):w.cell? ⟨B,1,none⟩=some (.int .i64 u.vsn):=by rw [cell_of_row _ _ _ _ _ _ h.box];rfl
theorem UBox.c2 (h:UBox w B u lo fo go co lc fc gc cc):w.cell? ⟨B,2,none⟩=some (.slice lo u.lits.length lc):=by rw [cell_of_row _ _ _ _ _ _ h.box];rfl
theorem UBox.c3 (h:UBox w B u lo fo go co lc fc gc cc):w.cell? ⟨B,3,none⟩=some (.slice fo u.funcs.length fc):=by rw [cell_of_row _ _ _ _ _ _ h.box];rfl
theorem UBox.c4 (h:UBox w B u lo fo go co lc fc gc cc):w.cell? ⟨B,4,none⟩=some (.slice go u.funs.length gc):=by rw [cell_of_row _ _ _ _ _ _ h.box];rfl
theorem UBox.c5 (h:UBox w B u lo fo go co lc fc gc cc):w.cell? ⟨B,5,none⟩=some (.slice co u.code.length cc):=by rw [cell_of_row _ _ _ _ _ _ h.box];rfl
end
theorem ubox_new (w:World) (u:RUnit) (lo fo go co:zzA) (lc fc gc cc:Nat):UBox (w.alloc (.cells #[.string u.mdl,.int .i64 u.vsn,.slice lo u.lits.length lc,.slice fo u.funcs.length fc,.slice go u.funs.length gc,.slice co u.code.length cc] 31)) w.heap.size u lo fo go co lc fc gc cc:=⟨heap_alloc_new _ _⟩
def sumN:List Nat->Nat
 |[]=>0
 |x::l=>x+sumN l
def capF:Nat->Tm->Nat
 |0,_=>0
 |f+1,t=>300+t.items.length+sumN (t.items.map (capF f))
theorem grownBy_refl (w:World) (o:Option Nat):w.grownBy w o:=⟨rfl,rfl,rfl,Nat.le_refl _,fun _ _ _=>rfl⟩
theorem grownBy_trans {a b c:World} {o:Option Nat} (h:a.grownBy b o) (h':b.grownBy c o):a.grownBy c o:=
 ⟨h'.os.trans h.os,h'.tape.trans h.tape,h'.output.trans h.output,Nat.le_trans h.size h'.size,fun k hk hn=>(h'.block k (Nat.lt_of_lt_of_le hk h.size) hn).trans (h.block k hk hn)⟩
theorem grownBy_drew {a b:World} {o:Option Nat} (h:a.grownBy b o):a.grownBy b.drew o:=⟨h.os,h.tape,h.output,h.size,h.block⟩
theorem grownBy_below {a b:World} (h:Below a.heap.size a b) (o:Option Nat):a.grownBy b o:=⟨h.os,h.tape,h.output,h.size,fun k hk _=>h.block k hk⟩
open Go.Shelf
def Tryz.lays106_ren:Go.Shelf.Ren:=⟨fun|106=>220|213=>241|265=>251|n=>n,fun|9=>9|3=>3|n=>n,fun|n=>n⟩
theorem Tryz.lays106:Go.Proofs.Lays.n106 Tryz.prog Tryz.lays106_ren:={
 mixed:=by kernel_rfl
 f106:=Tryz.func220.trans (congrArg some (by kernel_rfl))
 f213:=Tryz.func241.trans (congrArg some (by kernel_rfl))
 f265:=Tryz.func251.trans (congrArg some (by kernel_rfl))
 t3:=Tryz.underlying3
 a3:=Tryz.isAgg3
 z3:=Tryz.sizeOf3
 v3:=Tryz.zeroValue3
 t9:=Tryz.underlying9
 a9:=Tryz.isAgg9
 z9:=Tryz.sizeOf9
 v9:=Tryz.zeroValue9}
open Go.RowKit in
theorem Tryz.strings_Compare (a b:ByteArray) (w:World):
  Calls Tryz.prog 220 #[.string a,.string b] w fun e w'=>e= .returned (.int .i64 (Lib.compareBytes a.data.toList b.data.toList))/\w'=w:=Any.strings_Compare Tryz.lays106 a b w
def Tryz.lays122_ren:Go.Shelf.Ren:=⟨fun|122=>215|215=>238|n=>n,fun|3=>3|4=>4|n=>n,fun|n=>n⟩
theorem Tryz.lays122:Go.Proofs.Lays.n122 Tryz.prog Tryz.lays122_ren:={
 mixed:=by kernel_rfl
 f122:=Tryz.func215.trans (congrArg some (by kernel_rfl))
 f215:=Tryz.func238.trans (congrArg some (by kernel_rfl))
 t3:=Tryz.underlying3
 a3:=Tryz.isAgg3
 z3:=Tryz.sizeOf3
 v3:=Tryz.zeroValue3
 t4:=Tryz.underlying4
 a4:=Tryz.isAgg4
 z4:=Tryz.sizeOf4
 v4:=Tryz.zeroValue4}
open Go.RowKit in
theorem Tryz.cmp_Compare_int (x y:Int) (w:World):
  Calls Tryz.prog 215 #[.int .i64 x,.int .i64 y] w fun e w'=>e= .returned (.int .i64 (Lib.compareInt x y))/\w'=w:=Any.cmp_Compare_int Tryz.lays122 x y w
def Tryz.lays144_ren:Go.Shelf.Ren:=⟨fun|144=>165|143=>193|219=>212|217=>235|225=>234|224=>233|267=>236|266=>246|314=>247|n=>n,fun|9=>9|4=>4|3=>3|5=>5|46=>110|146=>325|51=>139|n=>n,fun|1=>4|n=>n⟩
theorem Tryz.lays144:Go.Proofs.Lays.n144 Tryz.prog Tryz.lays144_ren:={
 mixed:=by kernel_rfl
 f143:=Tryz.func193.trans (congrArg some (by kernel_rfl))
 f144:=Tryz.func165.trans (congrArg some (by kernel_rfl))
 f217:=Tryz.func235.trans (congrArg some (by kernel_rfl))
 f219:=Tryz.func212.trans (congrArg some (by kernel_rfl))
 f224:=Tryz.func233.trans (congrArg some (by kernel_rfl))
 f225:=Tryz.func234.trans (congrArg some (by kernel_rfl))
 f266:=Tryz.func246.trans (congrArg some (by kernel_rfl))
 f267:=Tryz.func236.trans (congrArg some (by kernel_rfl))
 f314:=Tryz.func247.trans (congrArg some (by kernel_rfl))
 t3:=Tryz.underlying3
 a3:=Tryz.isAgg3
 z3:=Tryz.sizeOf3
 v3:=Tryz.zeroValue3
 t4:=Tryz.underlying4
 a4:=Tryz.isAgg4
 z4:=Tryz.sizeOf4
 v4:=Tryz.zeroValue4
 t5:=Tryz.underlying5
 a5:=Tryz.isAgg5
 z5:=Tryz.sizeOf5
 v5:=Tryz.zeroValue5
 t9:=Tryz.underlying9
 a9:=Tryz.isAgg9
 z9:=Tryz.sizeOf9
 v9:=Tryz.zeroValue9
 t46:=Tryz.underlying110
 a46:=Tryz.isAgg110
 z46:=Tryz.sizeOf110
 v46:=Tryz.zeroValue110
 t51:=Tryz.underlying139
 a51:=Tryz.isAgg139
 z51:=Tryz.sizeOf139
 v51:=Tryz.zeroValue139
 t146:=Tryz.underlying325
 a146:=Tryz.isAgg325
 z146:=Tryz.sizeOf325
 v146:=Tryz.zeroValue325
 g1:=by kernel_rfl}
open Go.RowKit Go.Lib in
theorem Tryz.strings_Contains_one (s:ByteArray) (c:UInt8) (w:World):
  Calls Tryz.prog 165 #[.string s,.string ⟨#[c]⟩] w fun e w'=>e= .returned (.bool (decide (0<=Lib.indexByte s.data.toList c)))/\w'=w:=Any.strings_Contains_one Tryz.lays144 s c w
def Tryz.lays189_ren:Go.Shelf.Ren:=⟨fun|189=>180|125=>39|257=>198|128=>79|129=>80|294=>222|295=>223|296=>224|297=>225|298=>226|299=>227|216=>228|300=>229|301=>230|328=>243|329=>110|330=>111|331=>244|332=>245|215=>238|343=>252|n=>n,fun|28=>233|3=>3|46=>110|0=>0|51=>139|53=>167|4=>4|183=>159|182=>158|131=>76|5=>5|9=>9|218=>217|222=>221|228=>259|229=>260|n=>n,fun|n=>n⟩
theorem Tryz.lays189:Go.Proofs.Lays.n189 Tryz.prog Tryz.lays189_ren:={
 mixed:=by kernel_rfl
 f125:=Tryz.func39.trans (congrArg some (by kernel_rfl))
 f128:=Tryz.func79.trans (congrArg some (by kernel_rfl))
 f129:=Tryz.func80.trans (congrArg some (by kernel_rfl))
 f189:=Tryz.func180.trans (congrArg some (by kernel_rfl))
 f215:=Tryz.func238.trans (congrArg some (by kernel_rfl))
 f216:=Tryz.func228.trans (congrArg some (by kernel_rfl))
 f257:=Tryz.func198.trans (congrArg some (by kernel_rfl))
 f294:=Tryz.func222.trans (congrArg some (by kernel_rfl))
 f295:=Tryz.func223.trans (congrArg some (by kernel_rfl))
 f296:=Tryz.func224.trans (congrArg some (by kernel_rfl))
 f297:=Tryz.func225.trans (congrArg some (by kernel_rfl))
 f298:=Tryz.func226.trans (congrArg some (by kernel_rfl))
 f299:=Tryz.func227.trans (congrArg some (by kernel_rfl))
 f300:=Tryz.func229.trans (congrArg some (by kernel_rfl))
 f301:=Tryz.func230.trans (congrArg some (by kernel_rfl))
 f328:=Tryz.func243.trans (congrArg some (by kernel_rfl))
 f329:=Tryz.func110.trans (congrArg some (by kernel_rfl))
 f330:=Tryz.func111.trans (congrArg some (by kernel_rfl))
 f331:=Tryz.func244.trans (congrArg some (by kernel_rfl))
 f332:=Tryz.func245.trans (congrArg some (by kernel_rfl))
 f343:=Tryz.func252.trans (congrArg some (by kernel_rfl))
 t0:=Tryz.underlying0
 a0:=Tryz.isAgg0
 z0:=Tryz.sizeOf0
 v0:=Tryz.zeroValue0
 t3:=Tryz.underlying3
 a3:=Tryz.isAgg3
 z3:=Tryz.sizeOf3
 v3:=Tryz.zeroValue3
 t4:=Tryz.underlying4
 a4:=Tryz.isAgg4
 z4:=Tryz.sizeOf4
 v4:=Tryz.zeroValue4
 t5:=Tryz.underlying5
 a5:=Tryz.isAgg5
 z5:=Tryz.sizeOf5
 v5:=Tryz.zeroValue5
 t9:=Tryz.underlying9
 a9:=Tryz.isAgg9
 z9:=Tryz.sizeOf9
 v9:=Tryz.zeroValue9
 t28:=Tryz.underlying233
 a28:=Tryz.isAgg233
 z28:=Tryz.sizeOf233
 v28:=Tryz.zeroValue233
 t46:=Tryz.underlying110
 a46:=Tryz.isAgg110
 z46:=Tryz.sizeOf110
 v46:=Tryz.zeroValue110
 t51:=Tryz.underlying139
 a51:=Tryz.isAgg139
 z51:=Tryz.sizeOf139
 v51:=Tryz.zeroValue139
 t53:=Tryz.underlying167
 a53:=Tryz.isAgg167
 z53:=Tryz.sizeOf167
 v53:=Tryz.zeroValue167
 t131:=Tryz.underlying76
 a131:=Tryz.isAgg76
 z131:=Tryz.sizeOf76
 v131:=Tryz.zeroValue76
 t182:=Tryz.underlying158
 a182:=Tryz.isAgg158
 z182:=Tryz.sizeOf158
 v182:=Tryz.zeroValue158
 t183:=Tryz.underlying159
 a183:=Tryz.isAgg159
 z183:=Tryz.sizeOf159
 v183:=Tryz.zeroValue159
 t218:=Tryz.underlying217
 a218:=Tryz.isAgg217
 z218:=Tryz.sizeOf217
 v218:=Tryz.zeroValue217
 t222:=Tryz.underlying221
 a222:=Tryz.isAgg221
 z222:=Tryz.sizeOf221
 v222:=Tryz.zeroValue221
 t228:=Tryz.underlying259
 a228:=Tryz.isAgg259
 z228:=Tryz.sizeOf259
 v228:=Tryz.zeroValue259
 t229:=Tryz.underlying260
 a229:=Tryz.isAgg260
 z229:=Tryz.sizeOf260
 v229:=Tryz.zeroValue260}
open Go.Sort Go.RowKit in
theorem Tryz.slices_Sort_int (blk off cap:Nat) (zs:List Int) (w:World) (hH:Holds (Value.int .i64) w blk off zs.toArray) (hblk:blk<w.heap.size) (hsz:zs.length<4611686018427387904):
  Calls Tryz.prog 180 #[.slice (some ⟨blk,off,none⟩) zs.length cap] w fun e w'=>
   e= .returned (.tuple #[])/\ ∃n os,w'=grow (putRow (Value.int .i64) (Sort.ahead w n) blk off (zs.mergeSort fun x y=>decide (x<=y)).toArray) os:=Any.slices_Sort_int Tryz.lays189 blk off cap zs w hH hblk hsz
def Tryz.lays157_ren:Go.Shelf.Ren:=⟨fun|157=>195|229=>213|199=>214|261=>237|311=>248|312=>249|n=>n,fun|9=>9|31=>53|3=>3|5=>5|4=>4|119=>300|0=>0|40=>256|152=>315|21=>21|154=>317|51=>139|141=>319|196=>330|193=>327|198=>333|49=>331|194=>328|201=>336|226=>339|46=>110|227=>340|n=>n,fun|0=>1|6=>5|n=>n⟩
theorem Tryz.lays157:Go.Proofs.Lays.n157 Tryz.prog Tryz.lays157_ren:={
 mixed:=by kernel_rfl
 f157:=Tryz.func195.trans (congrArg some (by kernel_rfl))
 f199:=Tryz.func214.trans (congrArg some (by kernel_rfl))
 f229:=Tryz.func213.trans (congrArg some (by kernel_rfl))
 f261:=Tryz.func237.trans (congrArg some (by kernel_rfl))
 f311:=Tryz.func248.trans (congrArg some (by kernel_rfl))
 f312:=Tryz.func249.trans (congrArg some (by kernel_rfl))
 t0:=Tryz.underlying0
 a0:=Tryz.isAgg0
 z0:=Tryz.sizeOf0
 v0:=Tryz.zeroValue0
 t3:=Tryz.underlying3
 a3:=Tryz.isAgg3
 z3:=Tryz.sizeOf3
 v3:=Tryz.zeroValue3
 t4:=Tryz.underlying4
 a4:=Tryz.isAgg4
 z4:=Tryz.sizeOf4
 v4:=Tryz.zeroValue4
 t5:=Tryz.underlying5
 a5:=Tryz.isAgg5
 z5:=Tryz.sizeOf5
 v5:=Tryz.zeroValue5
 t9:=Tryz.underlying9
 a9:=Tryz.isAgg9
 z9:=Tryz.sizeOf9
 v9:=Tryz.zeroValue9
 t21:=Tryz.underlying21
 a21:=Tryz.isAgg21
 z21:=Tryz.sizeOf21
 v21:=Tryz.zeroValue21
 t31:=Tryz.underlying53
 a31:=Tryz.isAgg53
 z31:=Tryz.sizeOf53
 v31:=Tryz.zeroValue53
 t40:=Tryz.underlying256
 a40:=Tryz.isAgg256
 z40:=Tryz.sizeOf256
 v40:=Tryz.zeroValue256
 t46:=Tryz.underlying110
 a46:=Tryz.isAgg110
 z46:=Tryz.sizeOf110
 v46:=Tryz.zeroValue110
 t49:=Tryz.underlying331
 a49:=Tryz.isAgg331
 z49:=Tryz.sizeOf331
 v49:=Tryz.zeroValue331
 t51:=Tryz.underlying139
 a51:=Tryz.isAgg139
 z51:=Tryz.sizeOf139
 v51:=Tryz.zeroValue139
 t119:=Tryz.underlying300
 a119:=Tryz.isAgg300
 z119:=Tryz.sizeOf300
 t141:=Tryz.underlying319
 a141:=Tryz.isAgg319
 z141:=Tryz.sizeOf319
 v141:=Tryz.zeroValue319
 t152:=Tryz.underlying315
 a152:=Tryz.isAgg315
 z152:=Tryz.sizeOf315
 v152:=Tryz.zeroValue315
 t154:=Tryz.underlying317
 a154:=Tryz.isAgg317
 z154:=Tryz.sizeOf317
 v154:=Tryz.zeroValue317
 t193:=Tryz.underlying327
 a193:=Tryz.isAgg327
 z193:=Tryz.sizeOf327
 v193:=Tryz.zeroValue327
 t194:=Tryz.underlying328
 a194:=Tryz.isAgg328
 z194:=Tryz.sizeOf328
 v194:=Tryz.zeroValue328
 t196:=Tryz.underlying330
 a196:=Tryz.isAgg330
 z196:=Tryz.sizeOf330
 v196:=Tryz.zeroValue330
 t198:=Tryz.underlying333
 a198:=Tryz.isAgg333
 z198:=Tryz.sizeOf333
 v198:=Tryz.zeroValue333
 t201:=Tryz.underlying336
 a201:=Tryz.isAgg336
 z201:=Tryz.sizeOf336
 v201:=Tryz.zeroValue336
 t226:=Tryz.underlying339
 a226:=Tryz.isAgg339
 z226:=Tryz.sizeOf339
 v226:=Tryz.zeroValue339
 t227:=Tryz.underlying340
 a227:=Tryz.isAgg340
 z227:=Tryz.sizeOf340
 v227:=Tryz.zeroValue340
 g0:=by kernel_rfl
 g6:=by kernel_rfl}
open Go.RowKit Go.Lib in
theorem Tryz.strings_Fields (s:ByteArray) (w:World) (hs:s.size<4294967281) (hascii: ∀(j:Nat) b,s.data.toList[j]?=some b->b.toNat<128) (htab:Lib.TabIs Tryz.prog w "strings.asciiSpace" .u8 Lib.asciiSpaceTab):
  Calls Tryz.prog 195 #[.string s] w fun e w'=>
   e= .returned (.slice (some ⟨w.heap.size,0,none⟩) (Lib.fields s.data.toList).length (Lib.fields s.data.toList).length)/\w'=w.alloc (.cells ((Lib.fields s.data.toList).map fun l=>Value.string ⟨l.toArray⟩).toArray 9):=Any.strings_Fields Tryz.lays157 (by kernel_rfl) (by kernel_rfl) s w hs hascii htab
def Tryz.lays111_ren:Go.Shelf.Ren:=⟨fun|111=>168|n=>n,fun|28=>233|3=>3|4=>4|0=>0|n=>n,fun|n=>n⟩
theorem Tryz.lays111:Go.Proofs.Lays.n111 Tryz.prog Tryz.lays111_ren:={
 mixed:=by kernel_rfl
 f111:=Tryz.func168.trans (congrArg some (by kernel_rfl))
 t0:=Tryz.underlying0
 a0:=Tryz.isAgg0
 z0:=Tryz.sizeOf0
 v0:=Tryz.zeroValue0
 t3:=Tryz.underlying3
 a3:=Tryz.isAgg3
 z3:=Tryz.sizeOf3
 v3:=Tryz.zeroValue3
 t4:=Tryz.underlying4
 a4:=Tryz.isAgg4
 z4:=Tryz.sizeOf4
 v4:=Tryz.zeroValue4
 t28:=Tryz.underlying233
 a28:=Tryz.isAgg233
 z28:=Tryz.sizeOf233
 v28:=Tryz.zeroValue233}
open Go.RowKit Go.Lib in
theorem Tryz.slices_Equal_int (b1 o1 n c b2 o2 m d:Nat) (xs ys:List Int) (w:World) (hx:n<=xs.length) (hy:m<=ys.length) (hbig:n<=9223372036854775807) (hbig2:m<=9223372036854775807) (hc1: ∀j,j<xs.length->w.cell? ⟨b1,o1+j,none⟩=some (.int .i64 (xs.getD j 0))) (hc2: ∀j,j<ys.length->w.cell? ⟨b2,o2+j,none⟩=some (.int .i64 (ys.getD j 0))):
  Calls Tryz.prog 168 #[.slice (some ⟨b1,o1,none⟩) n c,.slice (some ⟨b2,o2,none⟩) m d] w fun e w'=>e= .returned (.bool (xs.take n==ys.take m))/\ ∃q,w'=w.drewN q:=Any.slices_Equal_int Tryz.lays111 b1 o1 n c b2 o2 m d xs ys w hx hy hbig hbig2 hc1 hc2
open Go.RowKit Go.Lib in
theorem Tryz.slices_Equal_int_empty (a1 a2:zzA) (c m d:Nat) (w:World) (hbig2:m<=9223372036854775807):
  Calls Tryz.prog 168 #[.slice a1 0 c,.slice a2 m d] w fun e w'=>e= .returned (.bool (decide (m=0)))/\w'=w:=Any.slices_Equal_int_empty Tryz.lays111 a1 a2 c m d w hbig2
def Tryz.laysNm215_ren:Go.Shelf.Ren:=⟨fun|15=>178|n=>n,fun|22=>233|3=>3|4=>4|n=>n,fun|n=>n⟩
theorem Tryz.laysNm215:Go.Proofs.Lays2.n15 Tryz.prog Tryz.laysNm215_ren:={
 mixed:=by kernel_rfl
 f15:=Tryz.func178.trans (congrArg some (by kernel_rfl))
 t3:=Tryz.underlying3
 a3:=Tryz.isAgg3
 z3:=Tryz.sizeOf3
 v3:=Tryz.zeroValue3
 t4:=Tryz.underlying4
 a4:=Tryz.isAgg4
 z4:=Tryz.sizeOf4
 v4:=Tryz.zeroValue4
 t22:=Tryz.underlying233
 a22:=Tryz.isAgg233
 z22:=Tryz.sizeOf233
 v22:=Tryz.zeroValue233
 i3:=by kernel_rfl}
open Go.RowKit Go.Lib in
theorem Tryz.slices_Clone_int (b off n c:Nat) (zs:List Int) (w:World) (hz:n<=zs.length) (hbig:n*8<=140737488355328) (hc: ∀j,j<zs.length->w.cell? ⟨b,off+j,none⟩=some (.int .i64 (zs.getD j 0))):
  Calls Tryz.prog 178 #[.slice (some ⟨b,off,none⟩) n c] w fun e w'=> ∃v',e= .returned v'/\w'.ownsRow w.heap.size 3 1 v' n ((zs.take n).map (Value.int .i64))/\v'≠ .slice none 0 0/\Below w.heap.size w w':=Any.slices_Clone_int Tryz.laysNm215 b off n c zs w hz hbig hc
open Go.RowKit Go.Lib in
theorem Tryz.slices_Clone_int_nil (n c:Nat) (w:World):
  Calls Tryz.prog 178 #[.slice none n c] w fun e w'=>e= .returned (.slice none 0 0)/\w'=w:=Any.slices_Clone_int_nil Tryz.laysNm215 n c w
open Go.RowKit Go.Lib in
theorem Tryz.slices_Clone_int_zero (a:Addr) (c:Nat) (w:World):
  Calls Tryz.prog 178 #[.slice (some a) 0 c] w fun e w'=> ∃v',e= .returned v'/\w'.ownsRow w.heap.size 3 1 v' 0 []/\v'≠ .slice none 0 0/\Below w.heap.size w w':=Any.slices_Clone_int_zero Tryz.laysNm215 a c w
def Tryz.laysNm220_ren:Go.Shelf.Ren:=⟨fun|20=>181|n=>n,fun|22=>233|3=>3|4=>4|0=>0|n=>n,fun|n=>n⟩
theorem Tryz.laysNm220:Go.Proofs.Lays2.n20 Tryz.prog Tryz.laysNm220_ren:={
 mixed:=by kernel_rfl
 f20:=Tryz.func181.trans (congrArg some (by kernel_rfl))
 t0:=Tryz.underlying0
 a0:=Tryz.isAgg0
 z0:=Tryz.sizeOf0
 v0:=Tryz.zeroValue0
 t3:=Tryz.underlying3
 a3:=Tryz.isAgg3
 z3:=Tryz.sizeOf3
 v3:=Tryz.zeroValue3
 t4:=Tryz.underlying4
 a4:=Tryz.isAgg4
 z4:=Tryz.sizeOf4
 v4:=Tryz.zeroValue4
 t22:=Tryz.underlying233
 a22:=Tryz.isAgg233
 z22:=Tryz.sizeOf233
 v22:=Tryz.zeroValue233
 i3:=by kernel_rfl}
open Go.RowKit Go.Lib Go.Sort in
theorem Tryz.slices_Compact_int (blk off cap:Nat) (zs:List Int) (w:World) (hH:Holds (Value.int .i64) w blk off zs.toArray) (hsz:zs.length<=9223372036854775807) (hcap:zs.length<=cap):
  Calls Tryz.prog 181 #[.slice (some ⟨blk,off,none⟩) zs.length cap] w fun e w'=>e= .returned (.slice (some ⟨blk,off,none⟩) (Lib.compact zs).length cap)/\ ∃q,w'=putRow (Value.int .i64) (Sort.ahead w q) blk off (Lib.compact zs++List.replicate (zs.length-(Lib.compact zs).length) 0).toArray:=Any.slices_Compact_int Tryz.laysNm220 blk off cap zs w hH hsz hcap
open Go.RowKit Go.Lib Go.Sort in
theorem Tryz.slices_Compact_int_empty (a:zzA) (cap:Nat) (w:World):
  Calls Tryz.prog 181 #[.slice a 0 cap] w fun e w'=>e= .returned (.slice a 0 cap)/\w'=w:=Any.slices_Compact_int_empty Tryz.laysNm220 a cap w
open Go.RowKit Go.Sort in
theorem Tryz.slices_Sort_int_none (p:zzA) (cap:Nat) (w:World):
  Calls Tryz.prog 180 #[.slice p 0 cap] w fun e w'=>e= .returned (.tuple #[])/\w'=w:=Any.slices_Sort_int_none Tryz.lays189 p cap w
open Go.RowKit Go.Lib in
theorem Tryz.slices_Equal_int_lens (a1 a2:zzA) (n c m d:Nat) (w:World) (hnm:n≠m):
  Calls Tryz.prog 168 #[.slice a1 n c,.slice a2 m d] w fun e w'=>e= .returned (.bool false)/\w'=w:=Any.slices_Equal_int_lens Tryz.lays111 a1 a2 n c m d w hnm
def Tryz.laysSlE041_f178_ren:Go.Shelf.Ren:=⟨fun|41=>178|n=>n,fun|22=>233|23=>3|4=>4|n=>n,fun|n=>n⟩
theorem Tryz.laysSlE041_f178:Go.Proofs.SlLaysE0.n41 Tryz.prog Tryz.laysSlE041_f178_ren:={
 mixed:=by kernel_rfl
 f41:=⟨Tryz.f178.name,by decide,Tryz.func178.trans (congrArg some (by kernel_rfl))⟩
 t4:=Tryz.underlying4
 a4:=Tryz.isAgg4
 z4:=Tryz.sizeOf4
 v4:=Tryz.zeroValue4
 t22:=Tryz.underlying233
 a22:=Tryz.isAgg233
 z22:=Tryz.sizeOf233
 v22:=Tryz.zeroValue233}
open Go.RowKit Go.Lib in
theorem Tryz.slices_Clone (i0:TypeInfo) (z:Value) (size bytes:Nat) (hi:Tryz.prog.info? 3=some i0) (hz0:i0.zero=some z) (hz1:i0.size=size) (hz2:i0.bytes=bytes) (hzs:z.cells.size=size) (hsz:0<size) (z23: ∀w,(Go.sizeOf 3).run Tryz.prog w= .ok size w) (b off n c:Nat) (news:List Value) (w:World) (hl:news.length=n*size) (hn:n<=maxLen) (hbig:n*bytes<=140737488355328) (hc: ∀j u,news[j]?=some u->w.cell? ⟨b,off+j,none⟩=some u) (h1: ∀u∈news,u.oneCell'=true):
  Calls Tryz.prog 178 #[.slice (some ⟨b,off,none⟩) n c] w fun e w'=> ∃v',e= .returned v'/\w'.ownsRow w.heap.size 3 size v' n news/\v'≠ .slice none 0 0/\Below w.heap.size w w':=AnyE.slices_Clone Tryz.laysSlE041_f178 i0 z size bytes hi hz0 hz1 hz2 hzs hsz z23 b off n c news w hl hn hbig hc h1
open Go.RowKit Go.Lib in
theorem Tryz.slices_Clone_nil (n c:Nat) (w:World):
  Calls Tryz.prog 178 #[.slice none n c] w fun e w'=>e= .returned (.slice none 0 0)/\w'=w:=AnyE.slices_Clone_nil Tryz.laysSlE041_f178 n c w
theorem within_any (n a b:Int) (w:World):
  Calls Tryz.prog 116 #[.int .i64 n,.int .i64 a,.int .i64 b] w fun e w'=>e= .returned (.bool (wi n a b))/\w=w':=by
 by_cases h1:a<=n
 ·by_cases h2:n<=b
  ·have E:=Lib.hid (wi_yes h1 h2)
   have d1:decide (a<=n)=true:=decide_eq_true h1
   have d2:decide (n<=b)=true:=decide_eq_true h2
   go_enter Tryz.func116,Tryz.ntmps116
   go_wp2
   go_ret
   exact⟨retb E.out.symm,rfl⟩
  ·have E:=Lib.hid (wi_no (n:=n) (a:=a) (b:=b) (fun h=>h2 h.2))
   have d1:decide (a<=n)=true:=decide_eq_true h1
   have d2:decide (n<=b)=false:=decide_eq_false h2
   go_enter Tryz.func116,Tryz.ntmps116
   go_wp2
   go_ret
   exact⟨retb E.out.symm,rfl⟩
 ·have E:=Lib.hid (wi_no (n:=n) (a:=a) (b:=b) (fun h=>h1 h.1))
  have d1:decide (a<=n)=false:=decide_eq_false h1
  go_enter Tryz.func116,Tryz.ntmps116
  go_wp2
  go_ret
  exact⟨retb E.out.symm,rfl⟩
def opdB (nl:Nat) (a:RArg):Bool:=if a.kind=1 then wi a.n 0 255 else if a.kind=2 then wi a.n 0 8191 else if a.kind=3 then wi a.n 0 ((nl:Int)-1)else false
theorem operand_any (B:Nat) (u:RUnit) (lo fo go co:zzA) (lc fc gc cc:Nat) (a:RArg) (w:World) (hb:UBox w B u lo fo go co lc fc gc cc) (hl:u.lits.length<=9223372036854775807) (ha:I64 a.kind/\I64 a.n):
  Calls Tryz.prog 118 #[.pointer (some ⟨B,0,none⟩),.agg #[.int .i64 a.kind,.int .i64 a.n]] w fun e w'=>e= .returned (.bool (opdB u.lits.length a))/\Below w.heap.size w w':=by
 have hbe:Below w.heap.size w (w.alloc (.cells #[.int .i64 a.kind,.int .i64 a.n] 68)):=zzE _ _
 have b2:=(hb.below hbe).c2
 have hlt:=hb.lt
 obtain⟨⟨x1,x2⟩,⟨y1,y2⟩⟩:=ha
 obtain⟨ak,an⟩:=a
 simp only at x1 x2 y1 y2
 by_cases k1:ak=1
 ·subst k1
  have E:Hid (opdB u.lits.length ⟨1,an⟩=wi an 0 255):=Lib.hid rfl
  go_enter Tryz.func118,Tryz.ntmps118
  go_wp2_with (go_at_call 116;refine(within_any _ _ _ _).mono ?_;rintro e w1 ⟨rfl,rfl⟩)
  go_ret
  exact⟨retb E.out.symm,hbe⟩
 ·by_cases k2:ak=2
  ·subst k2
   have E:Hid (opdB u.lits.length ⟨2,an⟩=wi an 0 8191):=Lib.hid rfl
   clear k1
   go_enter Tryz.func118,Tryz.ntmps118
   go_wp2_with (go_at_call 116;refine(within_any _ _ _ _).mono ?_;rintro e w1 ⟨rfl,rfl⟩)
   go_ret
   exact⟨retb E.out.symm,hbe⟩
  ·by_cases k3:ak=3
   ·subst k3
    have E:Hid (opdB u.lits.length ⟨3,an⟩=wi an 0 ((u.lits.length:Int)-1)):=Lib.hid rfl
    clear k1 k2
    generalize u.lits.length=nl at *
    have hw1:IntKind.i64.wrap ((nl:Int)-1)=(nl:Int)-1:=by rw [IntKind.wrap_i64];omega
    go_enter Tryz.func118,Tryz.ntmps118
    go_wp2_with fail
    go_quiet ((go_at_call 116;exact Calls.quiet_of_same ((within_any _ _ _ _).mono fun _ _ ⟨a,b⟩=>⟨a,b.symm⟩)))
    go_wp2_with fail
    go_ret
    exact⟨retb E.out.symm,below_drewN hbe _⟩
   ·have E:Hid (opdB u.lits.length ⟨ak,an⟩=false):=Lib.hid (by unfold opdB;rw [if_neg k1,if_neg k2,if_neg k3])
    have t1:(ak==1)=false:=beq_eq_false_iff_ne.2 k1
    have t2:(ak==2)=false:=beq_eq_false_iff_ne.2 k2
    have t3:(ak==3)=false:=beq_eq_false_iff_ne.2 k3
    clear k1 k2 k3
    go_enter Tryz.func118,Tryz.ntmps118
    go_wp2_with fail
    go_ret
    exact⟨retb E.out.symm,hbe⟩
def okAt (i b:Nat):Bool:=decide (97<=b/\b<=122\/0<i/\(65<=b/\b<=90\/48<=b/\b<=57\/b=95\/b=64))
def nameB (s:ByteArray):Bool:=decide (0<s.size)&&decide (s.size<=32)&&decide (∀i,(h:i<s.size)->okAt i s[i].toNat=true)
theorem nameB_bad {s:ByteArray} {i:Nat} (h:i<s.size) (e:okAt i s[i].toNat=false):nameB s=false:=by
 unfold nameB
 have:decide (∀i,(h:i<s.size)->okAt i s[i].toNat=true)=false:=by
  apply decide_eq_false;intro hh;have:=hh i h;rw [e]at this;simp at this
 rw [this,Bool.and_false]
theorem nameB_good {s:ByteArray} (h0:0<s.size) (h1:s.size<=32) (h: ∀i,(h:i<s.size)->okAt i s[i].toNat=true):nameB s=true:=by
 unfold nameB;rw [decide_eq_true h0,decide_eq_true h1,decide_eq_true h];rfl
theorem okAt_high {i b:Nat} (h:123<=b):okAt i b=false:=by unfold okAt;apply decide_eq_false;omega
theorem nameB_len {s:ByteArray} (h: ¬(0<s.size/\s.size<=32)):nameB s=false:=by
 unfold nameB
 by_cases h0:0<s.size
 ·rw [decide_eq_false (p:=s.size<=32) (by omega),Bool.and_false,Bool.false_and]
 ·rw [decide_eq_false h0,Bool.false_and,Bool.false_and]
theorem rune_at (s:ByteArray) (pos:Nat) (hp:pos<s.size):okAt pos (Utf8.decode s pos).1=okAt pos s[pos].toNat/\(okAt pos s[pos].toNat=true->(Utf8.decode s pos).2=1):=by
 by_cases ha:s[pos].toNat<128
 ·rw [decode_ascii s pos hp ha];exact⟨rfl,fun _=>rfl⟩
 ·have h:=(decode_high s pos hp (by omega)).1
  rw [okAt_high (by omega),okAt_high (by omega)];exact⟨rfl,fun e=>by simp at e⟩
theorem below_iter (w:World) (s:ByteArray) (pos:Nat):Below w.heap.size w (w.iter s pos):=zzE _ _
theorem names_any (s:ByteArray) (w:World):Calls Tryz.prog 115 #[.string s] w fun e w'=>e= .returned (.bool (nameB s))/\Below w.heap.size w w':=by
 have HL:Hid (¬(0<s.size/\s.size<=32)->nameB s=false):=Lib.hid nameB_len
 by_cases hs0:s.size=0
 ·have he:s=ByteArray.empty:=by
   have h:s.data.size=0:=hs0
   exact ByteArray.ext (Array.eq_empty_of_size_eq_zero h)
  subst he
  have HV:Hid (nameB ByteArray.empty=false):=Lib.hid (nameB_len (by simp))
  clear HL
  go_enter Tryz.func115,Tryz.ntmps115
  go_wp2_with fail
  go_ret
  exact⟨retb HV.out.symm,Below.refl _ _⟩
 ·have hne: ¬s.toList= []:=by
   rw [ByteArray.toList_eq];intro e;have h2:=congrArg List.length e;exact hs0 (by simpa using h2)
  have hne2:s.toList.isEmpty=false:=by cases h:s.toList with|nil=>exact absurd h hne|cons _ _=>rfl
  by_cases hs1:32<s.size
  ·have HV:Hid (nameB s=false):=Lib.hid (nameB_len (by omega))
   have g1:decide ((32:Int)<(s.size:Int))=true:=by simp;omega
   clear HL
   go_enter Tryz.func115,Tryz.ntmps115
   go_wp2_with fail
   go_ret
   exact⟨retb HV.out.symm,Below.refl _ _⟩
  ·have g1:decide ((32:Int)<(s.size:Int))=false:=by simp;omega
   clear HL
   go_enter Tryz.func115,Tryz.ntmps115
   go_wp2_with fail
   go_loopw [] (fun wr=> ∃pos:Nat,pos<=s.size/\wr=w.iter s pos/\Hid (∀i,(h:i<s.size)->i<pos->okAt i s[i].toNat=true)) (fun wr=>s.size-wr.iterPos w.heap.size)
   case atStart=>exact⟨0,Nat.zero_le _,rfl,Lib.hid (fun i _ h=>absurd h (Nat.not_lt_zero _))⟩
   case round=>
    obtain⟨pos,hpl,rfl,HG⟩:=hrel
    by_cases hp:pos<s.size
    ·have hnx: ∀ty,(Instr.next (.pointer (some ⟨w.heap.size,0,none⟩)) true ty).run Tryz.prog (w.iter s pos)=_:=fun ty=>run_next_any w s pos ty hp
     have HR:=Lib.hid (rune_at s pos hp)
     have HB:Hid (okAt pos s[pos].toNat=false->nameB s=false):=Lib.hid (nameB_bad hp)
     have HK:Hid (okAt pos s[pos].toNat=true->(∀i,(h:i<s.size)->i<pos+1->okAt i s[i].toNat=true)):=Lib.hid (fun e i h h1=>by
      rcases Nat.lt_or_ge i pos with h2|h2
      ·exact HG.out i h h2
      ·obtain rfl:i=pos:=by omega
       exact e)
     generalize(Utf8.decode s pos).1=c at *
     generalize(Utf8.decode s pos).2=d at *
     by_cases r8:97<=c/\c<=122
     ·have hc:97<=c/\c<=122:=by omega
      have q0:decide ((97:Int)<=(c:Int))=true:=by simp;omega
      have q1:decide ((c:Int)<=122)=true:=by simp;omega
      have q2:decide ((65:Int)<=(c:Int))=true:=by simp;omega
      have q3:decide ((c:Int)<=90)=false:=by simp;omega
      have q4:decide ((48:Int)<=(c:Int))=true:=by simp;omega
      have q5:decide ((c:Int)<=57)=false:=by simp;omega
      have q6:((c:Int)==95)=false:=by simp;omega
      have q7:((c:Int)==64)=false:=by simp;omega
      have hok:Hid (okAt pos c=true):=Lib.hid (by unfold okAt;apply decide_eq_true;omega)
      have hok2:Hid (okAt pos s[pos].toNat=true):=Lib.hid (by rw [<-HR.out.1];exact hok.out)
      obtain rfl:=HR.out.2 hok2.out
      have HG2:=Lib.hid (HK.out hok2.out)
      clear HG HK HB HR hok hok2
      go_wp2_with fail
      go_roundw
      case rel=>exact⟨_,by omega,rfl,HG2⟩
      case measure=>simp;omega
     ·by_cases hz:pos=0
      ·obtain rfl:=hz
       by_cases r10:c<=47
       ·have hc:0<=c/\c<=47:=by omega
        have q0:decide ((97:Int)<=(c:Int))=false:=by simp;omega
        have q1:decide ((c:Int)<=122)=true:=by simp;omega
        have q2:decide ((65:Int)<=(c:Int))=false:=by simp;omega
        have q3:decide ((c:Int)<=90)=true:=by simp;omega
        have q4:decide ((48:Int)<=(c:Int))=false:=by simp;omega
        have q5:decide ((c:Int)<=57)=true:=by simp;omega
        have q6:((c:Int)==95)=false:=by simp;omega
        have q7:((c:Int)==64)=false:=by simp;omega
        have hok:Hid (okAt 0 c=false):=Lib.hid (by unfold okAt;apply decide_eq_false;omega)
        have hok2:Hid (okAt 0 s[0].toNat=false):=Lib.hid (by rw [<-HR.out.1];exact hok.out)
        have HV:Hid (nameB s=false):=Lib.hid (HB.out hok2.out)
        clear HG HK HB HR hok hok2
        go_wp2_with fail
        (try simp only [Exit.inBlock,Exit.then])
        go_ret
        exact⟨retb HV.out.symm,below_iter _ _ _⟩
       ·by_cases r11:c<=57
        ·have hc:48<=c/\c<=57:=by omega
         have q0:decide ((97:Int)<=(c:Int))=false:=by simp;omega
         have q1:decide ((c:Int)<=122)=true:=by simp;omega
         have q2:decide ((65:Int)<=(c:Int))=false:=by simp;omega
         have q3:decide ((c:Int)<=90)=true:=by simp;omega
         have q4:decide ((48:Int)<=(c:Int))=true:=by simp;omega
         have q5:decide ((c:Int)<=57)=true:=by simp;omega
         have q6:((c:Int)==95)=false:=by simp;omega
         have q7:((c:Int)==64)=false:=by simp;omega
         have hok:Hid (okAt 0 c=false):=Lib.hid (by unfold okAt;apply decide_eq_false;omega)
         have hok2:Hid (okAt 0 s[0].toNat=false):=Lib.hid (by rw [<-HR.out.1];exact hok.out)
         have HV:Hid (nameB s=false):=Lib.hid (HB.out hok2.out)
         clear HG HK HB HR hok hok2
         go_wp2_with fail
         (try simp only [Exit.inBlock,Exit.then])
         go_ret
         exact⟨retb HV.out.symm,below_iter _ _ _⟩
        ·by_cases r12:c<=63
         ·have hc:58<=c/\c<=63:=by omega
          have q0:decide ((97:Int)<=(c:Int))=false:=by simp;omega
          have q1:decide ((c:Int)<=122)=true:=by simp;omega
          have q2:decide ((65:Int)<=(c:Int))=false:=by simp;omega
          have q3:decide ((c:Int)<=90)=true:=by simp;omega
          have q4:decide ((48:Int)<=(c:Int))=true:=by simp;omega
          have q5:decide ((c:Int)<=57)=false:=by simp;omega
          have q6:((c:Int)==95)=false:=by simp;omega
          have q7:((c:Int)==64)=false:=by simp;omega
          have hok:Hid (okAt 0 c=false):=Lib.hid (by unfold okAt;apply decide_eq_false;omega)
          have hok2:Hid (okAt 0 s[0].toNat=false):=Lib.hid (by rw [<-HR.out.1];exact hok.out)
          have HV:Hid (nameB s=false):=Lib.hid (HB.out hok2.out)
          clear HG HK HB HR hok hok2
          go_wp2_with fail
          (try simp only [Exit.inBlock,Exit.then])
          go_ret
          exact⟨retb HV.out.symm,below_iter _ _ _⟩
         ·by_cases r13:c<=64
          ·have hc:64<=c/\c<=64:=by omega
           obtain rfl:c=64:=by omega
           have hok:Hid (okAt 0 64=false):=Lib.hid (by unfold okAt;apply decide_eq_false;omega)
           have hok2:Hid (okAt 0 s[0].toNat=false):=Lib.hid (by rw [<-HR.out.1];exact hok.out)
           have HV:Hid (nameB s=false):=Lib.hid (HB.out hok2.out)
           clear HG HK HB HR hok hok2
           go_wp2_with fail
           (try simp only [Exit.inBlock,Exit.then])
           go_ret
           exact⟨retb HV.out.symm,below_iter _ _ _⟩
          ·by_cases r14:c<=90
           ·have hc:65<=c/\c<=90:=by omega
            have q0:decide ((97:Int)<=(c:Int))=false:=by simp;omega
            have q1:decide ((c:Int)<=122)=true:=by simp;omega
            have q2:decide ((65:Int)<=(c:Int))=true:=by simp;omega
            have q3:decide ((c:Int)<=90)=true:=by simp;omega
            have q4:decide ((48:Int)<=(c:Int))=true:=by simp;omega
            have q5:decide ((c:Int)<=57)=false:=by simp;omega
            have q6:((c:Int)==95)=false:=by simp;omega
            have q7:((c:Int)==64)=false:=by simp;omega
            have hok:Hid (okAt 0 c=false):=Lib.hid (by unfold okAt;apply decide_eq_false;omega)
            have hok2:Hid (okAt 0 s[0].toNat=false):=Lib.hid (by rw [<-HR.out.1];exact hok.out)
            have HV:Hid (nameB s=false):=Lib.hid (HB.out hok2.out)
            clear HG HK HB HR hok hok2
            go_wp2_with fail
            (try simp only [Exit.inBlock,Exit.then])
            go_ret
            exact⟨retb HV.out.symm,below_iter _ _ _⟩
           ·by_cases r15:c<=94
            ·have hc:91<=c/\c<=94:=by omega
             have q0:decide ((97:Int)<=(c:Int))=false:=by simp;omega
             have q1:decide ((c:Int)<=122)=true:=by simp;omega
             have q2:decide ((65:Int)<=(c:Int))=true:=by simp;omega
             have q3:decide ((c:Int)<=90)=false:=by simp;omega
             have q4:decide ((48:Int)<=(c:Int))=true:=by simp;omega
             have q5:decide ((c:Int)<=57)=false:=by simp;omega
             have q6:((c:Int)==95)=false:=by simp;omega
             have q7:((c:Int)==64)=false:=by simp;omega
             have hok:Hid (okAt 0 c=false):=Lib.hid (by unfold okAt;apply decide_eq_false;omega)
             have hok2:Hid (okAt 0 s[0].toNat=false):=Lib.hid (by rw [<-HR.out.1];exact hok.out)
             have HV:Hid (nameB s=false):=Lib.hid (HB.out hok2.out)
             clear HG HK HB HR hok hok2
             go_wp2_with fail
             (try simp only [Exit.inBlock,Exit.then])
             go_ret
             exact⟨retb HV.out.symm,below_iter _ _ _⟩
            ·by_cases r16:c<=95
             ·have hc:95<=c/\c<=95:=by omega
              obtain rfl:c=95:=by omega
              have hok:Hid (okAt 0 95=false):=Lib.hid (by unfold okAt;apply decide_eq_false;omega)
              have hok2:Hid (okAt 0 s[0].toNat=false):=Lib.hid (by rw [<-HR.out.1];exact hok.out)
              have HV:Hid (nameB s=false):=Lib.hid (HB.out hok2.out)
              clear HG HK HB HR hok hok2
              go_wp2_with fail
              (try simp only [Exit.inBlock,Exit.then])
              go_ret
              exact⟨retb HV.out.symm,below_iter _ _ _⟩
             ·by_cases r17:c<=96
              ·have hc:96<=c/\c<=96:=by omega
               obtain rfl:c=96:=by omega
               have hok:Hid (okAt 0 96=false):=Lib.hid (by unfold okAt;apply decide_eq_false;omega)
               have hok2:Hid (okAt 0 s[0].toNat=false):=Lib.hid (by rw [<-HR.out.1];exact hok.out)
               have HV:Hid (nameB s=false):=Lib.hid (HB.out hok2.out)
               clear HG HK HB HR hok hok2
               go_wp2_with fail
               (try simp only [Exit.inBlock,Exit.then])
               go_ret
               exact⟨retb HV.out.symm,below_iter _ _ _⟩
              ·have hc:123<=c:=by omega
               have q0:decide ((97:Int)<=(c:Int))=true:=by simp;omega
               have q1:decide ((c:Int)<=122)=false:=by simp;omega
               have q2:decide ((65:Int)<=(c:Int))=true:=by simp;omega
               have q3:decide ((c:Int)<=90)=false:=by simp;omega
               have q4:decide ((48:Int)<=(c:Int))=true:=by simp;omega
               have q5:decide ((c:Int)<=57)=false:=by simp;omega
               have q6:((c:Int)==95)=false:=by simp;omega
               have q7:((c:Int)==64)=false:=by simp;omega
               have hok:Hid (okAt 0 c=false):=Lib.hid (by unfold okAt;apply decide_eq_false;omega)
               have hok2:Hid (okAt 0 s[0].toNat=false):=Lib.hid (by rw [<-HR.out.1];exact hok.out)
               have HV:Hid (nameB s=false):=Lib.hid (HB.out hok2.out)
               clear HG HK HB HR hok hok2
               go_wp2_with fail
               (try simp only [Exit.inBlock,Exit.then])
               go_ret
               exact⟨retb HV.out.symm,below_iter _ _ _⟩
      ·by_cases r10:c<=47
       ·have hc:0<=c/\c<=47:=by omega
        have q0:decide ((97:Int)<=(c:Int))=false:=by simp;omega
        have q1:decide ((c:Int)<=122)=true:=by simp;omega
        have q2:decide ((65:Int)<=(c:Int))=false:=by simp;omega
        have q3:decide ((c:Int)<=90)=true:=by simp;omega
        have q4:decide ((48:Int)<=(c:Int))=false:=by simp;omega
        have q5:decide ((c:Int)<=57)=true:=by simp;omega
        have q6:((c:Int)==95)=false:=by simp;omega
        have q7:((c:Int)==64)=false:=by simp;omega
        have q9:decide ((0:Int)<(pos:Int))=true:=by simp;omega
        have hok:Hid (okAt pos c=false):=Lib.hid (by unfold okAt;apply decide_eq_false;omega)
        have hok2:Hid (okAt pos s[pos].toNat=false):=Lib.hid (by rw [<-HR.out.1];exact hok.out)
        have HV:Hid (nameB s=false):=Lib.hid (HB.out hok2.out)
        clear HG HK HB HR hok hok2
        go_wp2_with fail
        (try simp only [Exit.inBlock,Exit.then])
        go_ret
        exact⟨retb HV.out.symm,below_iter _ _ _⟩
       ·by_cases r11:c<=57
        ·have hc:48<=c/\c<=57:=by omega
         have q0:decide ((97:Int)<=(c:Int))=false:=by simp;omega
         have q1:decide ((c:Int)<=122)=true:=by simp;omega
         have q2:decide ((65:Int)<=(c:Int))=false:=by simp;omega
         have q3:decide ((c:Int)<=90)=true:=by simp;omega
         have q4:decide ((48:Int)<=(c:Int))=true:=by simp;omega
         have q5:decide ((c:Int)<=57)=true:=by simp;omega
         have q6:((c:Int)==95)=false:=by simp;omega
         have q7:((c:Int)==64)=false:=by simp;omega
         have q9:decide ((0:Int)<(pos:Int))=true:=by simp;omega
         have hok:Hid (okAt pos c=true):=Lib.hid (by unfold okAt;apply decide_eq_true;omega)
         have hok2:Hid (okAt pos s[pos].toNat=true):=Lib.hid (by rw [<-HR.out.1];exact hok.out)
         obtain rfl:=HR.out.2 hok2.out
         have HG2:=Lib.hid (HK.out hok2.out)
         clear HG HK HB HR hok hok2
         go_wp2_with fail
         go_roundw
         case rel=>exact⟨_,by omega,rfl,HG2⟩
         case measure=>simp;omega
        ·by_cases r12:c<=63
         ·have hc:58<=c/\c<=63:=by omega
          have q0:decide ((97:Int)<=(c:Int))=false:=by simp;omega
          have q1:decide ((c:Int)<=122)=true:=by simp;omega
          have q2:decide ((65:Int)<=(c:Int))=false:=by simp;omega
          have q3:decide ((c:Int)<=90)=true:=by simp;omega
          have q4:decide ((48:Int)<=(c:Int))=true:=by simp;omega
          have q5:decide ((c:Int)<=57)=false:=by simp;omega
          have q6:((c:Int)==95)=false:=by simp;omega
          have q7:((c:Int)==64)=false:=by simp;omega
          have q9:decide ((0:Int)<(pos:Int))=true:=by simp;omega
          have hok:Hid (okAt pos c=false):=Lib.hid (by unfold okAt;apply decide_eq_false;omega)
          have hok2:Hid (okAt pos s[pos].toNat=false):=Lib.hid (by rw [<-HR.out.1];exact hok.out)
          have HV:Hid (nameB s=false):=Lib.hid (HB.out hok2.out)
          clear HG HK HB HR hok hok2
          go_wp2_with fail
          (try simp only [Exit.inBlock,Exit.then])
          go_ret
          exact⟨retb HV.out.symm,below_iter _ _ _⟩
         ·by_cases r13:c<=64
          ·have hc:64<=c/\c<=64:=by omega
           obtain rfl:c=64:=by omega
           have q9:decide ((0:Int)<(pos:Int))=true:=by simp;omega
           have hok:Hid (okAt pos 64=true):=Lib.hid (by unfold okAt;apply decide_eq_true;omega)
           have hok2:Hid (okAt pos s[pos].toNat=true):=Lib.hid (by rw [<-HR.out.1];exact hok.out)
           obtain rfl:=HR.out.2 hok2.out
           have HG2:=Lib.hid (HK.out hok2.out)
           clear HG HK HB HR hok hok2
           go_wp2_with fail
           go_roundw
           case rel=>exact⟨_,by omega,rfl,HG2⟩
           case measure=>simp;omega
          ·by_cases r14:c<=90
           ·have hc:65<=c/\c<=90:=by omega
            have q0:decide ((97:Int)<=(c:Int))=false:=by simp;omega
            have q1:decide ((c:Int)<=122)=true:=by simp;omega
            have q2:decide ((65:Int)<=(c:Int))=true:=by simp;omega
            have q3:decide ((c:Int)<=90)=true:=by simp;omega
            have q4:decide ((48:Int)<=(c:Int))=true:=by simp;omega
            have q5:decide ((c:Int)<=57)=false:=by simp;omega
            have q6:((c:Int)==95)=false:=by simp;omega
            have q7:((c:Int)==64)=false:=by simp;omega
            have q9:decide ((0:Int)<(pos:Int))=true:=by simp;omega
            have hok:Hid (okAt pos c=true):=Lib.hid (by unfold okAt;apply decide_eq_true;omega)
            have hok2:Hid (okAt pos s[pos].toNat=true):=Lib.hid (by rw [<-HR.out.1];exact hok.out)
            obtain rfl:=HR.out.2 hok2.out
            have HG2:=Lib.hid (HK.out hok2.out)
            clear HG HK HB HR hok hok2
            go_wp2_with fail
            go_roundw
            case rel=>exact⟨_,by omega,rfl,HG2⟩
            case measure=>simp;omega
           ·by_cases r15:c<=94
            ·have hc:91<=c/\c<=94:=by omega
             have q0:decide ((97:Int)<=(c:Int))=false:=by simp;omega
             have q1:decide ((c:Int)<=122)=true:=by simp;omega
             have q2:decide ((65:Int)<=(c:Int))=true:=by simp;omega
             have q3:decide ((c:Int)<=90)=false:=by simp;omega
             have q4:decide ((48:Int)<=(c:Int))=true:=by simp;omega
             have q5:decide ((c:Int)<=57)=false:=by simp;omega
             have q6:((c:Int)==95)=false:=by simp;omega
             have q7:((c:Int)==64)=false:=by simp;omega
             have q9:decide ((0:Int)<(pos:Int))=true:=by simp;omega
             have hok:Hid (okAt pos c=false):=Lib.hid (by unfold okAt;apply decide_eq_false;omega)
             have hok2:Hid (okAt pos s[pos].toNat=false):=Lib.hid (by rw [<-HR.out.1];exact hok.out)
             have HV:Hid (nameB s=false):=Lib.hid (HB.out hok2.out)
             clear HG HK HB HR hok hok2
             go_wp2_with fail
             (try simp only [Exit.inBlock,Exit.then])
             go_ret
             exact⟨retb HV.out.symm,below_iter _ _ _⟩
            ·by_cases r16:c<=95
             ·have hc:95<=c/\c<=95:=by omega
              obtain rfl:c=95:=by omega
              have q9:decide ((0:Int)<(pos:Int))=true:=by simp;omega
              have hok:Hid (okAt pos 95=true):=Lib.hid (by unfold okAt;apply decide_eq_true;omega)
              have hok2:Hid (okAt pos s[pos].toNat=true):=Lib.hid (by rw [<-HR.out.1];exact hok.out)
              obtain rfl:=HR.out.2 hok2.out
              have HG2:=Lib.hid (HK.out hok2.out)
              clear HG HK HB HR hok hok2
              go_wp2_with fail
              go_roundw
              case rel=>exact⟨_,by omega,rfl,HG2⟩
              case measure=>simp;omega
             ·by_cases r17:c<=96
              ·have hc:96<=c/\c<=96:=by omega
               obtain rfl:c=96:=by omega
               have q9:decide ((0:Int)<(pos:Int))=true:=by simp;omega
               have hok:Hid (okAt pos 96=false):=Lib.hid (by unfold okAt;apply decide_eq_false;omega)
               have hok2:Hid (okAt pos s[pos].toNat=false):=Lib.hid (by rw [<-HR.out.1];exact hok.out)
               have HV:Hid (nameB s=false):=Lib.hid (HB.out hok2.out)
               clear HG HK HB HR hok hok2
               go_wp2_with fail
               (try simp only [Exit.inBlock,Exit.then])
               go_ret
               exact⟨retb HV.out.symm,below_iter _ _ _⟩
              ·have hc:123<=c:=by omega
               have q0:decide ((97:Int)<=(c:Int))=true:=by simp;omega
               have q1:decide ((c:Int)<=122)=false:=by simp;omega
               have q2:decide ((65:Int)<=(c:Int))=true:=by simp;omega
               have q3:decide ((c:Int)<=90)=false:=by simp;omega
               have q4:decide ((48:Int)<=(c:Int))=true:=by simp;omega
               have q5:decide ((c:Int)<=57)=false:=by simp;omega
               have q6:((c:Int)==95)=false:=by simp;omega
               have q7:((c:Int)==64)=false:=by simp;omega
               have q9:decide ((0:Int)<(pos:Int))=true:=by simp;omega
               have hok:Hid (okAt pos c=false):=Lib.hid (by unfold okAt;apply decide_eq_false;omega)
               have hok2:Hid (okAt pos s[pos].toNat=false):=Lib.hid (by rw [<-HR.out.1];exact hok.out)
               have HV:Hid (nameB s=false):=Lib.hid (HB.out hok2.out)
               clear HG HK HB HR hok hok2
               go_wp2_with fail
               (try simp only [Exit.inBlock,Exit.then])
               go_ret
               exact⟨retb HV.out.symm,below_iter _ _ _⟩
    ·have hnx: ∀ty,(Instr.next (.pointer (some ⟨w.heap.size,0,none⟩)) true ty).run Tryz.prog (w.iter s pos)=_:=fun ty=>run_next_end w s pos ty hp
     have HV:Hid (nameB s=true):=Lib.hid (nameB_good (by omega) (by omega) (fun i h=>HG.out i h (by omega)))
     clear HG
     go_wp2_with fail
     (try simp only [Exit.inBlock,Exit.then])
     go_ret
     exact⟨retb HV.out.symm,below_iter _ _ _⟩
theorem raises_mid (op:Int) (h: ¬(op=2\/op=3\/op=4\/op=14\/op=15\/op=27\/op=35\/op=36)):raises op=wi op 16 23:=by
 unfold raises wi
 by_cases c:16<=op/\op<=23
 ·have hm:op∈([2,3,4,14,15,16,17,18,19,20,21,22,23,27,35,36]:List Int):=by simp;omega
  rw [decide_eq_true hm,decide_eq_true c.1,decide_eq_true c.2];rfl
 ·have hm:op∉([2,3,4,14,15,16,17,18,19,20,21,22,23,27,35,36]:List Int):=by simp;omega
  rw [decide_eq_false hm]
  by_cases c1:16<=op
  ·rw [decide_eq_true c1,decide_eq_false (fun h=>c ⟨c1,h⟩)];rfl
  ·rw [decide_eq_false c1];rfl
theorem raises_any (op:Int) (w:World):
  Calls Tryz.prog 133 #[.int .i64 op] w fun e w'=>e= .returned (.bool (raises op))/\w=w':=by
 by_cases h:op=2\/op=3\/op=4\/op=14\/op=15\/op=27\/op=35\/op=36
 ·rcases h with rfl|rfl|rfl|rfl|rfl|rfl|rfl|rfl
  all_goals
   go_enter Tryz.func133,Tryz.ntmps133
   go_wp2
   go_ret
   exact⟨rfl,rfl⟩
 ·have E:=Lib.hid (raises_mid op h)
  have t1:(op==2)=false:=by rw [beq_eq_false_iff_ne];omega
  have t2:(op==3)=false:=by rw [beq_eq_false_iff_ne];omega
  have t3:(op==4)=false:=by rw [beq_eq_false_iff_ne];omega
  have t4:(op==14)=false:=by rw [beq_eq_false_iff_ne];omega
  have t5:(op==15)=false:=by rw [beq_eq_false_iff_ne];omega
  have t6:(op==27)=false:=by rw [beq_eq_false_iff_ne];omega
  have t7:(op==35)=false:=by rw [beq_eq_false_iff_ne];omega
  have t8:(op==36)=false:=by rw [beq_eq_false_iff_ne];omega
  clear h
  go_enter Tryz.func133,Tryz.ntmps133
  go_wp2_with (go_at_call 116;refine(within_any _ _ _ _).mono ?_;rintro e w1 ⟨rfl,rfl⟩)
  go_ret
  exact⟨retb E.out.symm,rfl⟩
structure VSt where
 frame:Int
 x:List Int
 y:List Int
 tries:List Int
 mt:Bool
 recv:Int
 frm:Int
def VSt.zero:VSt:=⟨0,[],[],[],false,0,0⟩
def joinT (a b:Int):Int:=if a=b then a else if a=0\/b=0 then 0 else if 3<=a/\3<=b then min a b else 1
def trimN (l:List Int):Nat->Nat
 |0=>0
 |n+1=>if l.getD n 0=0 then trimN l n else n+1
def trimT (l:List Int):List Int:=l.take (trimN l l.length)
def typT (l:List Int) (n:Int):Int:=l.getD n.toNat 0
def joinL:List Int->List Int->List Int
 |a::l,b::m=>joinT a b::joinL l m
 |_,_=>[]
def joinS (a b:VSt):VSt:=⟨a.frame,trimT (joinL a.x b.x),joinL a.y b.y,a.tries,a.mt&&b.mt,a.recv,a.frm⟩
def clashV (a b:VSt):Int:=if a.frame≠b.frame then 181 else if a.tries≠b.tries then 182 else if a.recv≠b.recv\/a.frm≠b.frm then 184 else 0
def anysV (n:Int):List Int:=List.replicate n.toNat 1
def entryV (n:Int):VSt:=⟨-1,anysV n,[],[],false,0,0⟩
def setN (l:List Int) (n:Nat) (t:Int):List Int:=(l++List.replicate (n+1-l.length) 0).set n t
def putV (s:VSt) (a:RArg) (t:Int):VSt:=if a.kind=1 then{s with x:=trimT (setN s.x a.n.toNat t)}else if a.kind=2 then{s with y:=s.y.set a.n.toNat t}else s
structure VM where
 st:VSt
 all:List VSt
 wrong:Int
def worse (s:VSt) (w:Int) (t:VSt):Int:=if clashV s t≠0/\(w=0\/clashV s t<w)then clashV s t else w
def worstV (s:VSt) (l:List VSt) (w:Int):Int:=l.foldl (worse s) w
def knownV (s:VSt) (l:List VSt):Bool:=l.any (fun t=>clashV s t==0)
def addV:Option VM->VSt->Option VM
 |none,s=>some ⟨s,[s],0⟩
 |some m,s=>some ⟨if worstV s m.all m.wrong=0 then joinS m.st s else m.st,if knownV s m.all=true then m.all else m.all++ [s],worstV s m.all m.wrong⟩
section
variable (u:RUnit)
def litV (i:Int):Int:=match u.lits[i.toNat]? with
 |some t=>if t.kind=9 then 2 else if t.kind=7 then 3+t.items.length else 1
 |none=>1
def kindT (s:VSt) (a:RArg):Int:=if a.kind=1 then typT s.x a.n else if a.kind=2 then(if s.frame<=a.n then 0 else s.y.getD a.n.toNat 0)else litV u a.n
def kindE (s:VSt) (a:RArg):Int:=if a.kind=1 then(if typT s.x a.n=0 then 186 else 0)else if a.kind=2 then(if s.frame<=a.n then 181 else 0)else 0
def argsV (x:RIns):Int:=if x.op=15\/x.op=18\/x.op=19\/x.op=20\/x.op=21 then x.n else if x.op=16\/x.op=17 then((u.funcs[x.n.toNat]?).map RFunc.arity).getD 0 else if x.op=26 then 1 else 0
def firstE (s:VSt):List RArg->Int
 |[]=>0
 |a::l=>if kindE s a≠0 then kindE s a else firstE s l
def segArgs:List RSeg->List RArg
 |[]=>[]
 |g::l=>g.val::(if g.size.kind=0/\g.size.n=0 then segArgs l else g.size::segArgs l)
def regsV (n:Nat):List RArg:=(List.range n).map fun k:Nat=>⟨1,(k:Int)⟩
def readsV (x:RIns):List RArg:=x.src++(segArgs x.segs++regsV (argsV u x).toNat)
def operandsV (s:VSt) (x:RIns):Int:=if firstE s (readsV u x)≠0 then firstE s (readsV u x)else if x.dst.kind=2/\s.frame<=x.dst.n then 181 else 0
def src0 (x:RIns):RArg:=x.src.headD ⟨0,0⟩
def typesV (s:VSt) (x:RIns):Int:=if x.op=5 then(if kindT u s (src0 x)<3+x.n+1 then 180 else 0)else if x.op=6\/x.op=7 then(if kindT u s (src0 x)≠2 then 180 else 0)else 0
def openV (op:Int):Bool:=decide (op∈([1,5,6,7,8,9,10,11,12,13,30,31,32,33,34]:List Int))
def receiveV (s:VSt) (x:RIns):Int:=if x.op=37\/x.op=40 then(if s.recv≠1 then 184 else 0)else if x.op=38\/x.op=39 then(if s.recv≠2 then 184 else 0)else if openV x.op=true then 0 else if s.recv≠0 then 184 else 0
def matchV (s:VSt) (x:RIns):Int:=if s.mt=false/\31<=x.op/\x.op<=34 then 183 else 0
def leavesV (op:Int):Bool:=decide (op=26\/op=17\/op=19\/op=21\/op=23)
def frameV (s:VSt) (x:RIns):Int:=if 0<=s.frame/\(x.op=24\/leavesV x.op=true)\/s.frame<0/\x.op=25 then 181 else 0
def lastT (l:List Int):Int:=l.getD (l.length-1) 0
def triesV (i:Nat) (s:VSt) (x:RIns):Int:=if s.tries.length=0 then(if x.op=29 then 182 else 0)else if leavesV x.op=true\/raises x.op=true/\lastT s.tries<=i then 182 else 0
def firstN:List Int->Int
 |[]=>0
 |e::l=>if e≠0 then e else firstN l
def checksV (i:Nat) (s:VSt) (x:RIns):Int:=firstN [operandsV u s x,typesV u s x,receiveV s x,matchV s x,frameV s x,triesV i s x]
def resultV (s:VSt) (x:RIns):Int:=
 if x.op=1 then kindT u s (src0 x)else if x.op=2\/x.op=13/\x.name.data.toList= [123,125]then 3+x.src.length else if x.op=3\/x.op=13/\x.name.data.toList= [124]then 2 else 1
def limitedV (op:Int):Bool:=decide (op∈([2,3,4,13,14,31,32,33,35]:List Int))
def cutV (s:VSt) (x:RIns):VSt:=if limitedV x.op=true/\x.live<s.x.length then{s with x:=trimT (s.x.take x.live.toNat)}else s
def aloneV (s:VSt):VSt:={s with x:=[1],mt:=false}
def peekV (s:VSt):VSt:={aloneV s with y:=List.replicate s.y.length 1,recv:=2}
def nextV (i:Nat) (s:VSt) (x:RIns):VSt:=
 let c:=cutV s x
 let n:=if x.dst.kind≠0 then putV c x.dst (resultV u s x)else c
 if x.op=9 then putV c (src0 x) (3+x.n)else if x.op=10 then putV c (src0 x) 2
 else if x.op=15\/x.op=16\/x.op=18\/x.op=20\/x.op=22 then aloneV c
 else if x.op=37 then peekV c
 else if x.op=24 then{n with frame:=x.n,y:=anysV x.n}
 else if x.op=25 then{n with frame:= -1,y:=[]}
 else if x.op=28 then{n with tries:=c.tries++ [x.to]}
 else if x.op=29 then{n with tries:=c.tries.take (c.tries.length-1)}
 else if x.op=30 then{n with mt:=true}
 else if x.op=36 then{n with recv:=1,frm:=i}
 else if x.op=38\/x.op=40 then{n with recv:=0,frm:=0}
 else n
def toV (s:VSt) (x:RIns):VSt:=
 if x.op=37 then{peekV (cutV s x)with x:=[],recv:=1}else if x.op=39 then{cutV s x with recv:=1}else cutV s x
def handV (s:VSt):VSt:=⟨s.frame,[1,1],s.y,s.tries.take (s.tries.length-1),false,0,0⟩
def followsV (op:Int):Bool:=!(decide (op=8\/op=39\/op=12\/op=27)||leavesV op)
def toB (op:Int):Bool:=decide (op∈([8,9,10,11,12,13,30,31,32,33,34,37,39,40]:List Int))
def targetsV (i:Nat) (x:RIns):List Int:=
 (if followsV x.op=true then [(i:Int)+1]else [])++((if toB x.op=true then [x.to]else [])++(if x.op=12 then x.cases.map RCase.to else []))
def insV (i:Nat):RIns:=(u.code[i]?).getD ⟨0,⟨0,0⟩,[],0,0,0,⟨#[]⟩,[],[]⟩
def addsV (i:Nat) (s:VSt) (x:RIns):List (Nat × VSt):=
 (if toB x.op=true/\i<x.to then [(x.to.toNat,toV s x)]else [])++(x.cases.map (fun c=>(c.to.toNat,toV s x)) ++
  ((if raises x.op=true/\s.tries≠ []then [((lastT s.tries).toNat,handV s)]else [])++(if followsV x.op=true then [(i+1,nextV u i s x)]else [])))
def backB (t:Option VSt) (s:VSt):Bool:=match t with
 |none=>true
 |some t=>decide (t.frame≠s.frame\/t.frm≠s.frm\/t.tries≠s.tries)
def passE (i:Nat) (s:VSt) (x:RIns) (S:Nat->Option VSt):Int:=if toB x.op=true/\x.to<=i/\backB (S x.to.toNat) s=true then 184 else if followsV x.op=true/\i+1=u.code.length then 185 else 0
def putM (M:Nat->Option VM) (p:Nat × VSt):Nat->Option VM:=fun j=>if j=p.1 then addV (M j) p.2 else M j
def stM (M:Nat->Option VM):Nat->Option VSt:=fun j=>(M j).map VM.st
def examM:Nat->Nat->(Nat->Option VM)->(Int × Int) × (Nat->Option VM)
 |0,_,M=>((0,0),M)
 |f+1,i,M=>match M i with
  |none=>examM f (i+1) M
  |some m=>
   if m.wrong≠0 then((i,m.wrong),M)
   else if checksV u i m.st (insV u i)≠0 then((i,checksV u i m.st (insV u i)),M)
   else if passE u i m.st (insV u i) (stM M)≠0 then((i,passE u i m.st (insV u i) (stM M)),M)
   else examM f (i+1) ((addsV u i m.st (insV u i)).foldl putM M)
def entriesV:List (Nat × VSt):=u.funcs.map (fun f=>(f.entry.toNat,entryV f.arity))++u.funs.map (fun f=>(f.entry.toNat,entryV (f.arity+f.free)))
def examMV:(Int × Int) × (Nat->Option VM):=examM u u.code.length 0 (entriesV u |>.foldl putM fun _=>none)
end
theorem clash_cases (s t:VSt):clashV s t=0\/clashV s t=181\/clashV s t=182\/clashV s t=184:=by
 unfold clashV;split<;>(try split)<;>(try split)<;>simp
theorem clash_zero {s t:VSt}:clashV s t=0↔s.frame=t.frame/\s.tries=t.tries/\s.recv=t.recv/\s.frm=t.frm:=by
 unfold clashV
 by_cases h1:s.frame=t.frame
 ·by_cases h2:s.tries=t.tries
  ·by_cases h3:s.recv=t.recv
   ·by_cases h4:s.frm=t.frm<;>simp [h1,h2,h3,h4]
   ·simp [h1,h2,h3]
  ·simp [h1,h2]
 ·simp [h1]
def ErrV (w:Int):Prop:=w=0\/w=181\/w=182\/w=184
theorem worse_err (s:VSt) {w:Int} (t:VSt) (h:ErrV w):ErrV (worse s w t):=by
 unfold worse;split
 ·exact clash_cases s t
 ·exact h
section
variable {u:RUnit}
theorem firstN_zero: ∀{l:List Int},firstN l=0-> ∀e∈l,e=0
 |[],_,e,h=>absurd h List.not_mem_nil
 |a::l,h,e,he=>by
  unfold firstN at h
  by_cases c:a=0
  ·rw [if_neg (by simp [c])]at h
   rcases List.mem_cons.1 he with r|r
   ·rw [r,c]
   ·exact firstN_zero h e r
  ·rw [if_pos c]at h;exact absurd h c
theorem checks_tries {i:Nat} {s:VSt} {x:RIns} (h:checksV u i s x=0):triesV i s x=0:=firstN_zero h _ (by simp)
end
theorem joinT_twice (a b:Int):joinT (joinT a b) b=joinT a b:=by
 unfold joinT
 by_cases h1:a=b
 ·simp [h1]
 ·by_cases h2:a=0\/b=0
  ·rw [if_neg h1,if_pos h2]
   by_cases h3:(0:Int)=b<;>simp [h3]
  ·by_cases h3:3<=a/\3<=b
   ·rw [if_neg h1,if_neg h2,if_pos h3]
    by_cases h4:min a b=b
    ·simp [h4]
    ·rw [if_neg h4,if_neg (by omega),if_pos (by omega)];omega
   ·rw [if_neg h1,if_neg h2,if_neg h3]
    by_cases h4:(1:Int)=b
    ·simp [h4]
    ·rw [if_neg h4,if_neg (by omega),if_neg (by omega)]
theorem joinT_zero (b:Int):joinT 0 b=0:=by
 unfold joinT;by_cases h:(0:Int)=b<;>simp [h]
theorem trimN_le (l:List Int): ∀n,trimN l n<=n
 |0=>Nat.le_refl _
 |n+1=>by unfold trimN;split;exact Nat.le_succ_of_le (trimN_le l n);exact Nat.le_refl _
theorem trimN_congr {l m:List Int}: ∀(n:Nat),(∀k,k<n->l.getD k 0=m.getD k 0)->trimN l n=trimN m n
 |0,_=>rfl
 |n+1,h=>by
  unfold trimN
  rw [h n (Nat.lt_succ_self n),trimN_congr n fun k hk=>h k (by omega)]
theorem trimN_zeros (l:List Int) {k:Nat}: ∀(n:Nat),k<=n->(∀j,k<=j->j<n->l.getD j 0=0)->trimN l n=trimN l k
 |0,hk,_=>by rw [Nat.le_zero.1 hk]
 |n+1,hk,h=>by
  rcases Nat.lt_or_ge n k with c|c
  ·rw [show k=n+1 by omega]
  ·rw [trimN,if_pos (h n c (Nat.lt_succ_self n))]
   exact trimN_zeros l n c fun j h1 h2=>h j h1 (by omega)
theorem trimN_len (l:List Int) (j:Nat): ∀n,trimN l n<=j->j<n->l.getD j 0=0
 |0,_,h=>absurd h (Nat.not_lt_zero j)
 |n+1,h1,h2=>by
  unfold trimN at h1
  split at h1
  ·rename_i c
   rcases Nat.lt_or_ge j n with d|d
   ·exact trimN_len l j n h1 d
   ·rw [show j=n by omega];exact c
  ·omega
theorem getD_trim (l:List Int) (j:Nat):(trimT l).getD j 0=l.getD j 0:=by
 unfold trimT
 rcases Nat.lt_or_ge j (trimN l l.length)with c|c
 ·rw [List.getD_eq_getElem?_getD,List.getD_eq_getElem?_getD,List.getElem?_take_of_lt c]
 ·have h2:(l.take (trimN l l.length)).getD j 0=0:=by
   rw [List.getD_eq_getElem?_getD,List.getElem?_eq_none (by rw [List.length_take];omega)];rfl
  rw [h2]
  rcases Nat.lt_or_ge j l.length with d|d
  ·exact(trimN_len l j l.length c d).symm
  ·rw [List.getD_eq_getElem?_getD,List.getElem?_eq_none d];rfl
theorem trim_ext {l m:List Int} (h: ∀j,l.getD j 0=m.getD j 0):trimT l=trimT m:=by
 have key: ∀(l m:List Int),l.length<=m.length->(∀j,l.getD j 0=m.getD j 0)->trimT l=trimT m:=by
  intro l m hl h
  have e:trimN m m.length=trimN l l.length:=by
   rw [trimN_zeros m m.length hl fun j h1 h2=>by rw [<-h j,List.getD_eq_getElem?_getD,List.getElem?_eq_none h1];rfl]
   exact trimN_congr _ fun k _=>(h k).symm
  have hle:=trimN_le l l.length
  unfold trimT
  rw [e]
  apply List.ext_getElem
  ·rw [List.length_take,List.length_take];omega
  ·intro j h1 h2
   rw [List.length_take]at h1 h2
   have g:=h j
   rw [List.getD_eq_getElem?_getD,List.getD_eq_getElem?_getD,List.getElem?_eq_getElem (by omega),List.getElem?_eq_getElem (by omega)]at g
   simpa using g
 rcases Nat.le_total l.length m.length with c|c
 ·exact key l m c h
 ·exact(key m l c fun j=>(h j).symm).symm
theorem joinL_getD: ∀(l m:List Int) (j:Nat),(joinL l m).getD j 0=if j<l.length/\j<m.length then joinT (l.getD j 0) (m.getD j 0)else 0
 |[],m,j=>by simp [joinL]
 |a::l,[],j=>by simp [joinL]
 |a::l,b::m,0=>by simp [joinL]
 |a::l,b::m,j+1=>by
  have:=joinL_getD l m j
  simp only [joinL,List.getD_cons_succ,List.length_cons,Nat.add_lt_add_iff_right]
  exact this
theorem joinL_len: ∀(l m:List Int),(joinL l m).length=min l.length m.length
 |[],m=>by simp [joinL]
 |a::l,[]=>by simp [joinL]
 |a::l,b::m=>by simp only [joinL,List.length_cons,joinL_len l m];omega
theorem joinL_twice: ∀(l m:List Int),joinL (joinL l m) m=joinL l m
 |[],_=>rfl
 |_::_,[]=>rfl
 |a::l,b::m=>by simp only [joinL];rw [joinT_twice,joinL_twice l m]
theorem getD_le (l:List Int) {j:Nat} (h:l.length<=j):l.getD j 0=0:=by rw [List.getD_eq_getElem?_getD,List.getElem?_eq_none h];rfl
theorem joinT_zero' (a:Int):joinT a 0=0:=by
 unfold joinT;by_cases h:a=0<;>simp [h]
theorem joinL_getD' (l m:List Int) (j:Nat):(joinL l m).getD j 0=joinT (l.getD j 0) (m.getD j 0):=by
 rw [joinL_getD]
 by_cases c1:j<l.length
 ·by_cases c2:j<m.length
  ·rw [if_pos ⟨c1,c2⟩]
  ·rw [if_neg (fun h=>c2 h.2),getD_le m (by omega),joinT_zero']
 ·rw [if_neg (fun h=>c1 h.1),getD_le l (by omega),joinT_zero]
theorem joinS_twice (a s:VSt):joinS (joinS a s) s=joinS a s:=by
 unfold joinS
 have hx:trimT (joinL (trimT (joinL a.x s.x)) s.x)=trimT (joinL a.x s.x):=by
  rw [show trimT (joinL a.x s.x)=trimT (joinL a.x s.x)from rfl]
  apply trim_ext
  intro j
  rw [joinL_getD',getD_trim,joinL_getD',joinT_twice]
 simp only [hx,joinL_twice,Bool.and_assoc,Bool.and_self]
theorem worst_self {s:VSt}: ∀{l:List VSt} {w:Int},(∀t∈l,clashV s t=0\/w≠0/\w<=clashV s t)->worstV s l w=w
 |[],_,_=>rfl
 |t::l,w,h=>by
  have e:worse s w t=w:=by
   unfold worse
   rcases h t List.mem_cons_self with c|⟨c1,c2⟩
   ·rw [if_neg (fun g=>g.1 c)]
   ·rw [if_neg (fun g=>by rcases g.2 with g|g<;>omega)]
  show worstV s l (worse s w t)=w
  rw [e]
  exact worst_self fun t ht=>h t (List.mem_cons_of_mem _ ht)
theorem worst_le {s:VSt}: ∀(l:List VSt) (w:Int),(w≠0->worstV s l w≠0/\worstV s l w<=w)/\ ∀t∈l,clashV s t=0\/worstV s l w≠0/\worstV s l w<=clashV s t
 |[],w=>⟨fun h=>⟨h,Int.le_refl _⟩,fun t h=>absurd h List.not_mem_nil⟩
 |t::l,w=>by
  have ih:=worst_le (s:=s) l (worse s w t)
  have hw:worse s w t=if clashV s t≠0/\(w=0\/clashV s t<w)then clashV s t else w:=rfl
  refine⟨fun h=>?_,fun t' ht=>?_⟩
  ·show worstV s l (worse s w t)≠0/\worstV s l (worse s w t)<=w
   have:worse s w t≠0/\worse s w t<=w:=by
    rw [hw];split<;>omega
   have:=ih.1 this.1
   omega
  ·show clashV s t'=0\/worstV s l (worse s w t)≠0/\worstV s l (worse s w t)<=clashV s t'
   rcases List.mem_cons.1 ht with r|r
   ·subst r
    by_cases c:clashV s t'=0
    ·exact .inl c
    ·have:worse s w t'≠0/\worse s w t'<=clashV s t':=by
      rw [hw];split<;>omega
     have:=ih.1 this.1
     exact .inr (by omega)
   ·exact ih.2 t' r
theorem joinL_self: ∀l:List Int,joinL l l=l
 |[]=>rfl
 |a::l=>by simp only [joinL];rw [joinL_self l];simp [joinT]
theorem joinS_self {s:VSt} (h:trimT s.x=s.x):joinS s s=s:=by
 unfold joinS
 rw [joinL_self,joinL_self,h,Bool.and_self]
theorem add_twice (m:Option VM) (s:VSt) (h:trimT s.x=s.x):addV (addV m s) s=addV m s:=by
 have hc:clashV s s=0:=clash_zero.2 ⟨rfl,rfl,rfl,rfl⟩
 cases m with
 |none=>
  have h1:worstV s [s] 0=0:=worst_self fun t ht=>.inl (by rw [List.mem_singleton.1 ht];exact hc)
  have h2:knownV s [s]=true:=by simp [knownV,hc]
  show some (VM.mk (if worstV s [s] 0=0 then joinS s s else s) (if knownV s [s]=true then [s]else [s]++ [s]) (worstV s [s] 0))=some ⟨s,[s],0⟩
  rw [if_pos h2,h1,if_pos rfl,joinS_self h]
 |some m=>
  have hall: ∀t∈(if knownV s m.all=true then m.all else m.all++ [s]),clashV s t=0\/worstV s m.all m.wrong≠0/\worstV s m.all m.wrong<=clashV s t:=by
   intro t ht
   split at ht
   ·exact(worst_le m.all m.wrong).2 t ht
   ·rcases List.mem_append.1 ht with g|g
    ·exact(worst_le m.all m.wrong).2 t g
    ·rw [List.mem_singleton.1 g];exact .inl hc
  have h1:=worst_self hall
  have h2:knownV s (if knownV s m.all=true then m.all else m.all++ [s])=true:=by
   by_cases k:knownV s m.all=true
   ·rw [if_pos k];exact k
   ·rw [if_neg k];unfold knownV;rw [List.any_append,Bool.or_eq_true];right;simp [hc]
  show some (VM.mk (if worstV s (if knownV s m.all=true then m.all else m.all++ [s]) (worstV s m.all m.wrong)=0 then joinS (if worstV s m.all m.wrong=0 then joinS m.st s else m.st) s else(if worstV s m.all m.wrong=0 then joinS m.st s else m.st))
   (if knownV s (if knownV s m.all=true then m.all else m.all++ [s])=true then(if knownV s m.all=true then m.all else m.all++ [s])else(if knownV s m.all=true then m.all else m.all++ [s])++ [s])
   (worstV s (if knownV s m.all=true then m.all else m.all++ [s]) (worstV s m.all m.wrong)))=some (VM.mk (if worstV s m.all m.wrong=0 then joinS m.st s else m.st) (if knownV s m.all=true then m.all else m.all++ [s]) (worstV s m.all m.wrong))
  rw [h1,if_pos h2]
  by_cases c:worstV s m.all m.wrong=0
  ·rw [if_pos c,if_pos c,joinS_twice]
  ·rw [if_neg c,if_neg c]
theorem ret_i {a b:Int} (h:a=b):Ending.returned (.int .i64 a)= .returned (.int .i64 b):=by rw [h]
theorem vjoin_any (a b:Int) (w:World):
  Calls Tryz.prog 169 #[.int .i64 a,.int .i64 b] w fun e w'=>e= .returned (.int .i64 (joinT a b))/\w'=w:=by
 by_cases h1:a=b
 ·have E:Hid (joinT a b=a):=Lib.hid (by unfold joinT;rw [if_pos h1])
  have t1:(a==b)=true:=beq_iff_eq.2 h1
  clear h1
  go_in
  go_wp2_with fail
  go_ret
  exact⟨ret_i E.out.symm,rfl⟩
 ·have t1:(a==b)=false:=beq_eq_false_iff_ne.2 h1
  by_cases h2:a=0
  ·have E:Hid (joinT a b=0):=Lib.hid (by unfold joinT;rw [if_neg h1,if_pos (.inl h2)])
   have t2:(a==0)=true:=beq_iff_eq.2 h2
   clear h1 h2
   go_in
   go_wp2_with fail
   go_ret
   exact⟨ret_i E.out.symm,rfl⟩
  ·have t2:(a==0)=false:=beq_eq_false_iff_ne.2 h2
   by_cases h3:b=0
   ·have E:Hid (joinT a b=0):=Lib.hid (by unfold joinT;rw [if_neg h1,if_pos (.inr h3)])
    have t3:(b==0)=true:=beq_iff_eq.2 h3
    clear h1 h2 h3
    go_in
    go_wp2_with fail
    go_ret
    exact⟨ret_i E.out.symm,rfl⟩
   ·have t3:(b==0)=false:=beq_eq_false_iff_ne.2 h3
    have hz: ¬(a=0\/b=0):=fun h=>h.elim h2 h3
    by_cases h4:3<=a
    ·have t4:decide (3<=a)=true:=decide_eq_true h4
     by_cases h5:3<=b
     ·have E:Hid (joinT a b=min a b):=Lib.hid (by unfold joinT;rw [if_neg h1,if_neg hz,if_pos ⟨h4,h5⟩])
      have t5:decide (3<=b)=true:=decide_eq_true h5
      clear h1 h2 h3 h4 h5 hz
      go_in
      go_wp2_with fail
      all_goals
       go_ret
       exact⟨ret_i (by rw [E.out]<;>omega),rfl⟩
     ·have E:Hid (joinT a b=1):=Lib.hid (by unfold joinT;rw [if_neg h1,if_neg hz,if_neg (fun h=>h5 h.2)])
      have t5:decide (3<=b)=false:=decide_eq_false h5
      clear h1 h2 h3 h4 h5 hz
      go_in
      go_wp2_with fail
      go_ret
      exact⟨ret_i E.out.symm,rfl⟩
    ·have E:Hid (joinT a b=1):=Lib.hid (by unfold joinT;rw [if_neg h1,if_neg hz,if_neg (fun h=>h4 h.1)])
     have t4:decide (3<=a)=false:=decide_eq_false h4
     clear h1 h2 h3 h4 hz
     go_in
     go_wp2_with fail
     go_ret
     exact⟨ret_i E.out.symm,rfl⟩
theorem when_any (b:Bool) (e:Int) (w:World):
  Calls Tryz.prog 129 #[.bool b,.int .i64 e] w fun e' w'=>e'= .returned (.int .i64 (if b=true then e else 0))/\w'=w:=by
 cases b with
 |false=>
  go_in
  go_wp2_with fail
  go_ret
  exact⟨rfl,rfl⟩
 |true=>
  go_in
  go_wp2_with fail
  go_ret
  exact⟨rfl,rfl⟩
theorem vleaves_any (op:Int) (w:World):
  Calls Tryz.prog 131 #[.int .i64 op] w fun e w'=>e= .returned (.bool (leavesV op))/\w'=w:=by
 by_cases h:op=26\/op=17\/op=19\/op=21\/op=23
 ·rcases h with rfl|rfl|rfl|rfl|rfl
  all_goals
   go_in
   go_wp2_with fail
   go_ret
   exact⟨rfl,rfl⟩
 ·have E:Hid (leavesV op=false):=Lib.hid (decide_eq_false h)
  have t1:(op==26)=false:=by rw [beq_eq_false_iff_ne];omega
  have t2:(op==17)=false:=by rw [beq_eq_false_iff_ne];omega
  have t3:(op==19)=false:=by rw [beq_eq_false_iff_ne];omega
  have t4:(op==21)=false:=by rw [beq_eq_false_iff_ne];omega
  have t5:(op==23)=false:=by rw [beq_eq_false_iff_ne];omega
  clear h
  go_in
  go_wp2_with fail
  go_ret
  exact⟨retb E.out.symm,rfl⟩
theorem limited_any (op:Int) (w:World):
  Calls Tryz.prog 175 #[.int .i64 op] w fun e w'=>e= .returned (.bool (limitedV op))/\w'=w:=by
 by_cases h:op=2\/op=3\/op=4\/op=13\/op=14\/op=31\/op=32\/op=33\/op=35
 ·rcases h with rfl|rfl|rfl|rfl|rfl|rfl|rfl|rfl|rfl
  all_goals
   go_in
   go_wp2_with fail
   go_ret
   exact⟨rfl,rfl⟩
 ·have E:Hid (limitedV op=false):=Lib.hid (decide_eq_false (by simpa using h))
  have t1:(op==2)=false:=by rw [beq_eq_false_iff_ne];omega
  have t2:(op==3)=false:=by rw [beq_eq_false_iff_ne];omega
  have t3:(op==4)=false:=by rw [beq_eq_false_iff_ne];omega
  have t4:(op==13)=false:=by rw [beq_eq_false_iff_ne];omega
  have t5:(op==14)=false:=by rw [beq_eq_false_iff_ne];omega
  have t6:(op==31)=false:=by rw [beq_eq_false_iff_ne];omega
  have t7:(op==32)=false:=by rw [beq_eq_false_iff_ne];omega
  have t8:(op==33)=false:=by rw [beq_eq_false_iff_ne];omega
  have t9:(op==35)=false:=by rw [beq_eq_false_iff_ne];omega
  clear h
  go_in
  go_wp2_with fail
  go_ret
  exact⟨retb E.out.symm,rfl⟩
theorem follows_any (op:Int) (w:World):
  Calls Tryz.prog 139 #[.int .i64 op] w fun e w'=>e= .returned (.bool (followsV op))/\w'=w:=by
 by_cases h:op=8\/op=39\/op=12\/op=27
 ·rcases h with rfl|rfl|rfl|rfl
  all_goals
   go_in
   go_wp2_with fail
   go_ret
   exact⟨rfl,rfl⟩
 ·have E:Hid (followsV op= !leavesV op):=Lib.hid (by unfold followsV;rw [decide_eq_false h,Bool.false_or])
  have t1:(op==8)=false:=by rw [beq_eq_false_iff_ne];omega
  have t2:(op==39)=false:=by rw [beq_eq_false_iff_ne];omega
  have t3:(op==12)=false:=by rw [beq_eq_false_iff_ne];omega
  have t4:(op==27)=false:=by rw [beq_eq_false_iff_ne];omega
  clear h
  go_in
  go_wp2_with (go_at_call 131;refine(vleaves_any _ _).mono ?_;rintro e w1 ⟨rfl,rfl⟩)
  go_ret
  exact⟨retb E.out.symm,rfl⟩
end Go.Proofs.YtponljdhfoipjaaGreatDoor
