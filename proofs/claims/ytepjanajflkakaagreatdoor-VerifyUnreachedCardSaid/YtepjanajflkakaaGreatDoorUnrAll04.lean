/- part 4 -/
import Derived.Laws.OwnMore
import Derived.Laws.NewBlocks
import Derived.Laws.Tables
import Derived.Deep.AppendLies
import Derived.Deep.Cut
import Derived.Test.YtepjanajflkakaaGreatDoorUnrAll01
namespace Go.Proofs.YtepjanajflkakaaGreatDoor
open Go.RowKit
set_option linter.unusedVariables false
set_option linter.unusedSimpArgs false
set_option maxRecDepth 100000
set_option maxHeartbeats 40000000
def IntsAt (w:World) (ao:Option Addr) (l:List Int):Prop:=
 l= []∨ ∃b off cs fr,ao=some ⟨b,off,none⟩/\w.heap[b]?=some (.cells cs 3 fr)/\ ∀j (h:j<l.length),cs[off+j]?=some (.int .i64 l[j])
def KeepT (w w':World):Prop:=w.heap.size<=w'.heap.size/\ ∀(k:Nat) (cs:Array Value) (t:TypeId) (fr:Nat × Nat),w.heap[k]?=some (Obj.cells cs t fr)->t≠86->t≠83->w'.heap[k]?=some (Obj.cells cs t fr)
theorem KeepT.refl (w:World):KeepT w w:=⟨Nat.le_refl _,fun _ _ _ _ h _ _=>h⟩
theorem KeepT.trans {a b c:World} (h:KeepT a b) (k:KeepT b c):KeepT a c:=⟨Nat.le_trans h.1 k.1,fun j cs t fr x y z=>k.2 j cs t fr (h.2 j cs t fr x y z) y z⟩
theorem KeepT.below {w w':World} (h:Below w.heap.size w w'):KeepT w w':=⟨h.size,fun k cs t fr x _ _=>(h.block k (lt_of_row x)).trans x⟩
theorem IntsAt.keep {w w':World} {ao:Option Addr} {l:List Int} (h:IntsAt w ao l) (k:KeepT w w'):IntsAt w' ao l:=
 h.imp id fun⟨b,off,cs,fr,e,hb,hr⟩=>⟨b,off,cs,fr,e,k.2 b cs _ fr hb (by decide) (by decide),hr⟩
theorem IntsAt.below {w w':World} {ao:Option Addr} {l:List Int} (h:IntsAt w ao l) (k:Below w.heap.size w w'):IntsAt w' ao l:=h.keep (.below k)
theorem IntsAt.nil (w:World) (ao:Option Addr):IntsAt w ao []:=.inl rfl
theorem IntsAt.take {w:World} {ao:Option Addr} {l:List Int} (h:IntsAt w ao l) (n:Nat):IntsAt w ao (l.take n):=
 h.elim (fun e=>.inl (by rw [e,List.take_nil])) fun⟨b,off,cs,fr,e,hb,hr⟩=>.inr ⟨b,off,cs,fr,e,hb,fun j hj=>by
  rw [List.length_take]at hj
  rw [hr j (by omega),List.getElem_take]⟩
theorem IntsAt.cell {w:World} {ao:Option Addr} {l:List Int} (h:IntsAt w ao l) {k:Nat} (hk:k<l.length):
  ∃b off,ao=some ⟨b,off,none⟩/\b<w.heap.size/\w.cell? ⟨b,off+k,none⟩=some (.int .i64 (l.getD k 0)):=by
 rcases h with h|⟨b,off,cs,fr,e,hb,hr⟩
 ·rw [h]at hk;exact absurd hk (Nat.not_lt_zero _)
 ·refine⟨b,off,e,lt_of_row hb,?_⟩
  rw [cell_of_row _ _ _ _ _ _ hb,hr k hk,List.getD_eq_getElem?_getD,List.getElem?_eq_getElem hk];rfl
theorem infoInt:(Tryz.prog.info? 3).map (fun i=>(i.zero,i.size,i.bytes))=some (some (.int .i64 0),1,8):=by kernel_rfl
theorem mkInts (n:Nat) (hn:n<=1000000): ∃arr:Array Value,arr.size=n/\ ∀wx:World,(Instr.makeSlice 38 (.int .i64 (n:Int)) (.int .i64 (n:Int))).run Tryz.prog wx= .ok (.slice (some ⟨wx.heap.size,0,none⟩) n n) (wx.alloc (.cells arr 3)):=by
 obtain⟨i0,hi,hz0,hz1,hz2⟩:=info_parts infoInt
 refine⟨madeCells (Value.int .i64 0).cells (n*i0.size),by rw [size_madeCells,hz1,Nat.mul_one],fun wx=>?_⟩
 have:=run_make (P:=Tryz.prog) wx 38 3 i0 _ Tryz.underlying38 hi hz0 .i64 .i64 n n (by omega) (Int.le_refl _) (by rw [hz2];omega) (by omega)
 simpa only [Int.toNat_natCast] using this
theorem cellOf {w:World} {B k:Nat} {arr:Array Value} {t:TypeId} {fr:Nat × Nat} (h:w.heap[B]?=some (.cells arr t fr)) (hk:k<arr.size):w.cell? ⟨B,k,none⟩=some arr[k]:=by
 rw [cell_of_row _ _ _ _ _ _ h,Array.getElem?_eq_getElem hk]
theorem anysV_len (n:Nat):(anysV (n:Int)).length=n:=by unfold anysV;simp
theorem ret_sl {ao:Option Addr} {m n c:Nat} (h:m=n):Ending.returned (.slice ao m c)= .returned (.slice ao n c):=by rw [h]
def HoldsI (arr:Array Value) (k:Nat) (f:Nat->Int):Prop:= ∀j,j<k->arr[j]?=some (.int .i64 (f j))
theorem HoldsI.set {arr:Array Value} {k:Nat} {f:Nat->Int} (h:HoldsI arr k f) (hk:k<arr.size):HoldsI (arr.setIfInBounds k (.int .i64 (f k))) (k+1) f:=by
 intro j hj
 rw [Array.getElem?_setIfInBounds]
 by_cases c:k=j
 ·subst c;rw [if_pos rfl,if_pos hk]
 ·rw [if_neg c];exact h j (by omega)
theorem vanys_any (n:Int) (w:World) (hn:0<=n/\n<=1000000):
  Calls Tryz.prog 88 #[.int .i64 n] w fun e w'=>(∃ao c,e= .returned (.slice ao (anysV n).length c)/\IntsAt w' ao (anysV n)/\(anysV n).length<=c)/\Below w.heap.size w w':=by
 obtain⟨n,rfl⟩:=Int.eq_ofNat_of_zero_le hn.1
 obtain⟨arr,ha,hmk⟩:=mkInts n (by omega)
 have hB0:Below w.heap.size w (w.alloc (.cells arr 3)):=(Below.refl _ _).alloc (Nat.le_refl _) _
 have hrow:(w.alloc (.cells arr 3)).heap[w.heap.size]?=some (.cells arr 3 (0,0)):=heap_alloc_new _ _
 have hn2:n<=1000000:=by omega
 clear hn
 go_in
 go_wp2_with fail
 generalize w.alloc (.cells arr 3)=W at *
 have HR:=Lib.hid hrow;have HB:=Lib.hid hB0
 have HA:=Lib.hid ha
 clear hmk hrow hB0 ha
 generalize hD:w.heap.size=B at *
 go_loopw [4,9] (fun _ iv wr=> ∃(k:Nat) (ar:Array Value),k<=n/\iv= .int .i64 k/\Hid (wr.heap[B]?=some (.cells ar 3 (0,0))/\ar.size=n/\HoldsI ar k (fun _=>1))/\Below B w wr) (fun _ iv _=>n-(intOf iv).toNat)
 case atStart=>exact⟨0,arr,Nat.zero_le _,rfl,Lib.hid ⟨HR.out,HA.out,fun j hj=>absurd hj (Nat.not_lt_zero j)⟩,HB.out⟩
 case round=>
  obtain⟨k,ar,hk,rfl,HK,hB⟩:=hrel
  rename World=>wr
  by_cases hlt:k<n
  ·have hc:=cellOf HK.out.1 (k:=k) (by rw [HK.out.2.1];exact hlt)
   have hf:wr.frozen? ⟨B,k,none⟩=false:=frozen_of_row _ _ _ _ _ HK.out.1
   go_wp2_with fail
   go_roundw
   case rel=>
    refine⟨k+1,_,hlt,by go_num,Lib.hid ⟨heap_setCell_same _ _ _ _ _ _ HK.out.1,?_,HK.out.2.2.set (f:=fun _=>1) (by rw [HK.out.2.1];exact hlt)⟩,hB.setCell (p:=⟨B,k,none⟩) (Nat.le_refl _) _⟩
    rw [Array.size_setIfInBounds];exact HK.out.2.1
   case measure=>simp [intOf];omega
  ·obtain rfl:k=n:=by omega
   go_wp2_with fail
   go_ret
   refine⟨⟨_,k,ret_sl (anysV_len k).symm,.inr ⟨B,0,ar,(0,0),rfl,HK.out.1,fun j hj=>?_⟩,Nat.le_of_eq (anysV_len k)⟩,by rw [hD];exact hB⟩
   rw [anysV_len]at hj
   rw [Nat.zero_add,HK.out.2.2 j hj]
   unfold anysV;simp
theorem vtrim_any (l:List Int) (ao:Option Addr) (c:Nat) (w:World) (h:IntsAt w ao l) (hl:l.length<=maxLen) (hc:l.length<=c):
  Calls Tryz.prog 131 #[.slice ao l.length c] w fun e w'=>e= .returned (.slice ao (trimT l).length c)/\Below w.heap.size w w':=by
 have HH:=Lib.hid h
 unfold maxLen at hl
 have E0:Hid ((trimT l).length=trimN l l.length):=Lib.hid (by unfold trimT;rw [List.length_take];have:=trimN_le l l.length;omega)
 clear h
 generalize hn:l.length=n at *
 have hn':n<=l.length:=by omega
 clear hn
 generalize(trimT l).length=R at *
 go_in
 go_wp2_with fail
 go_loopw [0] (fun v wr=> ∃k:Nat,k<=n/\v= .slice ao k c/\Hid (trimN l n=trimN l k)/\Below w.heap.size w wr) (fun v _=>match v with|.slice _ k _=>k|_=>0)
 case atStart=>exact⟨n,Nat.le_refl _,rfl,Lib.hid rfl,Below.refl _ _⟩
 case round=>
  obtain⟨k,hk,rfl,HK,hB⟩:=hrel
  rename World=>wr
  cases k with
  |zero=>
   have E:Hid (R=0):=Lib.hid (by rw [E0.out,HK.out];rfl)
   go_wp2_with fail
   go_ret
   exact⟨ret_sl E.out.symm,hB⟩
  |succ k=>
   obtain⟨b,off,hao,hlt,q0⟩:=(HH.out.below hB).cell (k:=k) (by omega)
   subst hao
   generalize hv:l.getD k 0=v at *
   have hw1:IntKind.i64.wrap (((k+1:Nat):Int)-1)=(k:Int):=by rw [IntKind.wrap_i64];omega
   by_cases c0:v=0
   ·have HK2:Hid (trimN l n=trimN l k):=Lib.hid (by rw [HK.out,trimN,if_pos (by rw [hv];exact c0)])
    have t0:(v==0)=true:=beq_iff_eq.2 c0
    clear c0 hv HK
    go_wp2_with fail
    exact⟨⟨k,by omega,rfl,HK2,hB⟩,Nat.lt_succ_self k⟩
   ·have E:Hid (R=k+1):=Lib.hid (by rw [E0.out,HK.out,trimN,if_neg (by rw [hv];exact c0)])
    have t0:(v==0)=false:=beq_eq_false_iff_ne.2 c0
    clear c0 hv HK
    go_wp2_with fail
    go_ret
    exact⟨ret_sl E.out.symm,hB⟩
def opTwo:List (List UInt8):=[[43],[42],[100,105,118],[114,101,109],[98,97,110,100],[98,111,114],[98,120,111,114],[98,115,108],[98,115,114],[97,110,100],[111,114],[120,111,114],[61,58,61],[61,47,61],[60],[61,60],[62],[62,61],[43,43]]
def operB (s:ByteArray) (n:Int):Bool:=
 if s.toList== [45]then n==1||n==2 else if s.toList== [98,110,111,116]||s.toList== [110,111,116]then n==1 else if opTwo.any (fun x=>s.toList==x)then n==2 else false
theorem operator_any (s:ByteArray) (n:Int) (w:World):Calls Tryz.prog 74 #[.string s,.int .i64 n] w fun e w'=>e= .returned (.bool (operB s n))/\w=w':=by
 cases t0:(s.toList== [45])with
 |true=>
  have E:Hid (operB s n=(n==1||n==2)):=Lib.hid (by unfold operB;rw [t0];rfl)
  cases q1:(n==1)with
  |true=>
   rw [q1]at E
   go_enter Tryz.func74,Tryz.ntmps74
   go_wp2_with fail
   go_ret
   exact⟨retb E.out.symm,rfl⟩
  |false=>
   rw [q1]at E
   go_enter Tryz.func74,Tryz.ntmps74
   go_wp2_with fail
   go_ret
   exact⟨retb E.out.symm,rfl⟩
 |false=>
  cases t1:(s.toList== [98,110,111,116])with
  |true=>
    have E:Hid (operB s n=(n==1)):=Lib.hid (by unfold operB;rw [t0,t1];rfl)
    go_enter Tryz.func74,Tryz.ntmps74
    go_wp2_with fail
    go_ret
    exact⟨retb E.out.symm,rfl⟩
  |false=>
  cases t2:(s.toList== [110,111,116])with
  |true=>
   have E:Hid (operB s n=(n==1)):=Lib.hid (by unfold operB;rw [t0,t1,t2];rfl)
   go_enter Tryz.func74,Tryz.ntmps74
   go_wp2_with fail
   go_ret
   exact⟨retb E.out.symm,rfl⟩
  |false=>
   cases t3:(s.toList== [43])with
   |true=>
     have E:Hid (operB s n=(n==2)):=Lib.hid (by unfold operB opTwo;simp only [List.any_cons,List.any_nil,t0,t1,t2,t3,Bool.false_or,Bool.or_false,Bool.true_or,Bool.or_true,if_true];rfl)
     go_enter Tryz.func74,Tryz.ntmps74
     go_wp2_with fail
     go_ret
     exact⟨retb E.out.symm,rfl⟩
   |false=>
   cases t4:(s.toList== [42])with
   |true=>
    have E:Hid (operB s n=(n==2)):=Lib.hid (by unfold operB opTwo;simp only [List.any_cons,List.any_nil,t0,t1,t2,t3,t4,Bool.false_or,Bool.or_false,Bool.true_or,Bool.or_true,if_true];rfl)
    go_enter Tryz.func74,Tryz.ntmps74
    go_wp2_with fail
    go_ret
    exact⟨retb E.out.symm,rfl⟩
   |false=>
    cases t5:(s.toList== [100,105,118])with
    |true=>
      have E:Hid (operB s n=(n==2)):=Lib.hid (by unfold operB opTwo;simp only [List.any_cons,List.any_nil,t0,t1,t2,t3,t4,t5,Bool.false_or,Bool.or_false,Bool.true_or,Bool.or_true,if_true];rfl)
      go_enter Tryz.func74,Tryz.ntmps74
      go_wp2_with fail
      go_ret
      exact⟨retb E.out.symm,rfl⟩
    |false=>
    cases t6:(s.toList== [114,101,109])with
    |true=>
     have E:Hid (operB s n=(n==2)):=Lib.hid (by unfold operB opTwo;simp only [List.any_cons,List.any_nil,t0,t1,t2,t3,t4,t5,t6,Bool.false_or,Bool.or_false,Bool.true_or,Bool.or_true,if_true];rfl)
     go_enter Tryz.func74,Tryz.ntmps74
     go_wp2_with fail
     go_ret
     exact⟨retb E.out.symm,rfl⟩
    |false=>
     cases t7:(s.toList== [98,97,110,100])with
     |true=>
       have E:Hid (operB s n=(n==2)):=Lib.hid (by unfold operB opTwo;simp only [List.any_cons,List.any_nil,t0,t1,t2,t3,t4,t5,t6,t7,Bool.false_or,Bool.or_false,Bool.true_or,Bool.or_true,if_true];rfl)
       go_enter Tryz.func74,Tryz.ntmps74
       go_wp2_with fail
       go_ret
       exact⟨retb E.out.symm,rfl⟩
     |false=>
     cases t8:(s.toList== [98,111,114])with
     |true=>
      have E:Hid (operB s n=(n==2)):=Lib.hid (by unfold operB opTwo;simp only [List.any_cons,List.any_nil,t0,t1,t2,t3,t4,t5,t6,t7,t8,Bool.false_or,Bool.or_false,Bool.true_or,Bool.or_true,if_true];rfl)
      go_enter Tryz.func74,Tryz.ntmps74
      go_wp2_with fail
      go_ret
      exact⟨retb E.out.symm,rfl⟩
     |false=>
      cases t9:(s.toList== [98,120,111,114])with
      |true=>
        have E:Hid (operB s n=(n==2)):=Lib.hid (by unfold operB opTwo;simp only [List.any_cons,List.any_nil,t0,t1,t2,t3,t4,t5,t6,t7,t8,t9,Bool.false_or,Bool.or_false,Bool.true_or,Bool.or_true,if_true];rfl)
        go_enter Tryz.func74,Tryz.ntmps74
        go_wp2_with fail
        go_ret
        exact⟨retb E.out.symm,rfl⟩
      |false=>
      cases t10:(s.toList== [98,115,108])with
      |true=>
       have E:Hid (operB s n=(n==2)):=Lib.hid (by unfold operB opTwo;simp only [List.any_cons,List.any_nil,t0,t1,t2,t3,t4,t5,t6,t7,t8,t9,t10,Bool.false_or,Bool.or_false,Bool.true_or,Bool.or_true,if_true];rfl)
       go_enter Tryz.func74,Tryz.ntmps74
       go_wp2_with fail
       go_ret
       exact⟨retb E.out.symm,rfl⟩
      |false=>
       cases t11:(s.toList== [98,115,114])with
       |true=>
         have E:Hid (operB s n=(n==2)):=Lib.hid (by unfold operB opTwo;simp only [List.any_cons,List.any_nil,t0,t1,t2,t3,t4,t5,t6,t7,t8,t9,t10,t11,Bool.false_or,Bool.or_false,Bool.true_or,Bool.or_true,if_true];rfl)
         go_enter Tryz.func74,Tryz.ntmps74
         go_wp2_with fail
         go_ret
         exact⟨retb E.out.symm,rfl⟩
       |false=>
       cases t12:(s.toList== [97,110,100])with
       |true=>
        have E:Hid (operB s n=(n==2)):=Lib.hid (by unfold operB opTwo;simp only [List.any_cons,List.any_nil,t0,t1,t2,t3,t4,t5,t6,t7,t8,t9,t10,t11,t12,Bool.false_or,Bool.or_false,Bool.true_or,Bool.or_true,if_true];rfl)
        go_enter Tryz.func74,Tryz.ntmps74
        go_wp2_with fail
        go_ret
        exact⟨retb E.out.symm,rfl⟩
       |false=>
        cases t13:(s.toList== [111,114])with
        |true=>
          have E:Hid (operB s n=(n==2)):=Lib.hid (by unfold operB opTwo;simp only [List.any_cons,List.any_nil,t0,t1,t2,t3,t4,t5,t6,t7,t8,t9,t10,t11,t12,t13,Bool.false_or,Bool.or_false,Bool.true_or,Bool.or_true,if_true];rfl)
          go_enter Tryz.func74,Tryz.ntmps74
          go_wp2_with fail
          go_ret
          exact⟨retb E.out.symm,rfl⟩
        |false=>
        cases t14:(s.toList== [120,111,114])with
        |true=>
         have E:Hid (operB s n=(n==2)):=Lib.hid (by unfold operB opTwo;simp only [List.any_cons,List.any_nil,t0,t1,t2,t3,t4,t5,t6,t7,t8,t9,t10,t11,t12,t13,t14,Bool.false_or,Bool.or_false,Bool.true_or,Bool.or_true,if_true];rfl)
         go_enter Tryz.func74,Tryz.ntmps74
         go_wp2_with fail
         go_ret
         exact⟨retb E.out.symm,rfl⟩
        |false=>
         cases t15:(s.toList== [61,58,61])with
         |true=>
           have E:Hid (operB s n=(n==2)):=Lib.hid (by unfold operB opTwo;simp only [List.any_cons,List.any_nil,t0,t1,t2,t3,t4,t5,t6,t7,t8,t9,t10,t11,t12,t13,t14,t15,Bool.false_or,Bool.or_false,Bool.true_or,Bool.or_true,if_true];rfl)
           go_enter Tryz.func74,Tryz.ntmps74
           go_wp2_with fail
           go_ret
           exact⟨retb E.out.symm,rfl⟩
         |false=>
         cases t16:(s.toList== [61,47,61])with
         |true=>
          have E:Hid (operB s n=(n==2)):=Lib.hid (by unfold operB opTwo;simp only [List.any_cons,List.any_nil,t0,t1,t2,t3,t4,t5,t6,t7,t8,t9,t10,t11,t12,t13,t14,t15,t16,Bool.false_or,Bool.or_false,Bool.true_or,Bool.or_true,if_true];rfl)
          go_enter Tryz.func74,Tryz.ntmps74
          go_wp2_with fail
          go_ret
          exact⟨retb E.out.symm,rfl⟩
         |false=>
          cases t17:(s.toList== [60])with
          |true=>
            have E:Hid (operB s n=(n==2)):=Lib.hid (by unfold operB opTwo;simp only [List.any_cons,List.any_nil,t0,t1,t2,t3,t4,t5,t6,t7,t8,t9,t10,t11,t12,t13,t14,t15,t16,t17,Bool.false_or,Bool.or_false,Bool.true_or,Bool.or_true,if_true];rfl)
            go_enter Tryz.func74,Tryz.ntmps74
            go_wp2_with fail
            go_ret
            exact⟨retb E.out.symm,rfl⟩
          |false=>
          cases t18:(s.toList== [61,60])with
          |true=>
           have E:Hid (operB s n=(n==2)):=Lib.hid (by unfold operB opTwo;simp only [List.any_cons,List.any_nil,t0,t1,t2,t3,t4,t5,t6,t7,t8,t9,t10,t11,t12,t13,t14,t15,t16,t17,t18,Bool.false_or,Bool.or_false,Bool.true_or,Bool.or_true,if_true];rfl)
           go_enter Tryz.func74,Tryz.ntmps74
           go_wp2_with fail
           go_ret
           exact⟨retb E.out.symm,rfl⟩
          |false=>
           cases t19:(s.toList== [62])with
           |true=>
             have E:Hid (operB s n=(n==2)):=Lib.hid (by unfold operB opTwo;simp only [List.any_cons,List.any_nil,t0,t1,t2,t3,t4,t5,t6,t7,t8,t9,t10,t11,t12,t13,t14,t15,t16,t17,t18,t19,Bool.false_or,Bool.or_false,Bool.true_or,Bool.or_true,if_true];rfl)
             go_enter Tryz.func74,Tryz.ntmps74
             go_wp2_with fail
             go_ret
             exact⟨retb E.out.symm,rfl⟩
           |false=>
           cases t20:(s.toList== [62,61])with
           |true=>
            have E:Hid (operB s n=(n==2)):=Lib.hid (by unfold operB opTwo;simp only [List.any_cons,List.any_nil,t0,t1,t2,t3,t4,t5,t6,t7,t8,t9,t10,t11,t12,t13,t14,t15,t16,t17,t18,t19,t20,Bool.false_or,Bool.or_false,Bool.true_or,Bool.or_true,if_true];rfl)
            go_enter Tryz.func74,Tryz.ntmps74
            go_wp2_with fail
            go_ret
            exact⟨retb E.out.symm,rfl⟩
           |false=>
            cases t21:(s.toList== [43,43])with
            |true=>
              have E:Hid (operB s n=(n==2)):=Lib.hid (by unfold operB opTwo;simp only [List.any_cons,List.any_nil,t0,t1,t2,t3,t4,t5,t6,t7,t8,t9,t10,t11,t12,t13,t14,t15,t16,t17,t18,t19,t20,t21,Bool.false_or,Bool.or_false,Bool.true_or,Bool.or_true,if_true];rfl)
              go_enter Tryz.func74,Tryz.ntmps74
              go_wp2_with fail
              go_ret
              exact⟨retb E.out.symm,rfl⟩
            |false=>
            have E:Hid (operB s n=false):=Lib.hid (by unfold operB opTwo;simp only [List.any_cons,List.any_nil,t0,t1,t2,t3,t4,t5,t6,t7,t8,t9,t10,t11,t12,t13,t14,t15,t16,t17,t18,t19,t20,t21,Bool.false_or];rfl)
            go_enter Tryz.func74,Tryz.ntmps74
            go_wp2_with fail
            go_ret
            exact⟨retb E.out.symm,rfl⟩
theorem size_any (a:Int) (w:World) (ha:I64 a):
  Calls Tryz.prog 159 #[.int .i64 a] w fun e w'=>e= .returned (.int .u64 a.natAbs)/\w=w':=by
 obtain⟨a1,a2⟩:=ha
 go_enter Tryz.func159,Tryz.ntmps159
 go_wp2
 ·go_ret
  exact⟨ret1 (by
    have:a<0:=by assumption
    rw [IntKind.wrap_u64,IntKind.wrap_u64];omega),rfl⟩
 ·go_ret
  exact⟨ret1 (by
    have:0<=a:=by assumption
    omega),rfl⟩
theorem slice20 (B:Nat) (l:Int) (k:Nat) (hl:l=k) (hk:k<20) (w:World):
  (Instr.sliceAt 212 (.pointer (some ⟨B,0,none⟩)) (some (.int .i64 l)) none none).run Tryz.prog w= .ok (.slice (some ⟨B,k,none⟩) (20-k) (20-k)) w:=by
 subst hl
 have e:Tryz.prog.arrayLen 212=20:=by kernel_rfl
 have ee:Tryz.prog.elem 212=5:=by kernel_rfl
 rw [run_sliceAt_array_l w 212 ⟨B,0,none⟩ (by rw [e,ee];exact Tryz.underlying212) .i64 k (by omega) (by rw [e];omega),e,ee]
 simp [go_sem,slicedAt,Addr.add]
 rw [if_neg (by omega)]
 split<;>simp_all
theorem conv20 (B k L:Nat) (hL:L=20-k) (l cs:List UInt8) (w:World) (hh:w.heap[B]?=some (.cells (byteCells cs) 212 (0,0))) (hl:cs.length=20) (e:l=cs.drop k):
  (convert 201 9 (.slice (some ⟨B,k,none⟩) L L)).run Tryz.prog w= .ok (.string ⟨l.toArray⟩) w:=by
 subst e hL
 have:=run_convert_bytes_back (P:=Tryz.prog) w 201 9 5 ⟨B,k,none⟩ (20-k) (cs.drop k) Tryz.underlying201 Tryz.underlying5 Tryz.underlying9 (fun j hj=>by
  have hp:(⟨B,k,none⟩:Addr).add j=⟨B,k+j,none⟩:=by unfold Addr.add;split<;>simp_all
  rw [hp,cell_of_row _ _ _ _ _ _ hh,byteCells_get (by simp at hj;omega)]
  simp)
 rw [List.length_drop,hl]at this
 exact this
theorem text_any (n:Int) (w:World) (hn:I64 n):
  Calls Tryz.prog 126 #[.int .i64 n] w fun e w'=>e= .returned (.string ⟨(txt n).toArray⟩)/\Below w.heap.size w w':=by
 go_enter Tryz.func126,Tryz.ntmps126
 go_wp2_with (go_at_call 159;refine(size_any _ _ hn).mono ?_;rintro e w1 ⟨rfl,rfl⟩)
 go_loopw [4,5] (fun v l wr=> ∃(k m:Nat) (cs:List UInt8),v= .int .i64 k/\l= .int .u64 m/\2<=k/\k<=20/\m<10^(k-1)/\m<=9223372036854775808/\cs.length=20/\wr.heap[w.heap.size]?=some (.cells (byteCells cs) 212 (0,0))/\Below w.heap.size w wr/\Hid (dig n.natAbs=dig m++cs.drop k)) (fun v _ _=>(intOf v).toNat)
 case atStart=>exact⟨20,n.natAbs,List.replicate 20 0,rfl,rfl,by omega,by omega,by have:=hn.1;have:=hn.2;omega,by have:=hn.1;have:=hn.2;omega,rfl,heap_alloc_new _ _,(Below.refl _ _).alloc (Nat.le_refl _) _,by simp [Hid]⟩
 case round=>
  obtain⟨k,m,cs,rfl,rfl,hk1,hk2,hm,hm2,hl,hh,hB,HD⟩:=hrel
  obtain⟨j,rfl⟩: ∃j,k=j+2:=⟨k-2,by omega⟩
  rename World=>wr
  have HM:=Lib.hid hm;clear hm
  have HL:=Lib.hid hl;clear hl
  have hcell:wr.cell? ⟨w.heap.size,j+1,none⟩=some (.int .u8 (cs[j+1]'(by rw [HL.out];omega)).toNat):=by rw [cell_of_row _ _ _ _ _ _ hh];exact byteCells_get _
  have hcell0:wr.cell? ⟨w.heap.size,j,none⟩=some (.int .u8 (cs[j]'(by rw [HL.out];omega)).toNat):=by rw [cell_of_row _ _ _ _ _ _ hh];exact byteCells_get _
  have hfz0:wr.frozen? ⟨w.heap.size,j,none⟩=false:=frozen_of_row _ _ _ _ _ hh
  have hfz:wr.frozen? ⟨w.heap.size,j+1,none⟩=false:=frozen_of_row _ _ _ _ _ hh
  have hh1:(wr.setCell ⟨w.heap.size,j+1,none⟩ (.int .u8 (48+(m:Int)%10))).heap[w.heap.size]?=some (.cells (byteCells (cs.set (j+1) (dgt m))) 212 (0,0)):=by
   rw [heap_setCell_same _ _ _ _ _ _ hh,<-dgt_toNat,byteCells_set]
  have hd1:(cs.set (j+1) (dgt m)).drop (j+1)=dgt m::cs.drop (j+2):=drop_set _ _ _ (by rw [HL.out];omega)
  have hl1:(cs.set (j+1) (dgt m)).length=20:=by rw [List.length_set];exact HL.out
  have hB1:Below w.heap.size w (wr.setCell ⟨w.heap.size,j+1,none⟩ (.int .u8 (48+(m:Int)%10))):=hB.setCell (Nat.le_refl _) _
  have HH:=Lib.hid hh;have HH1:=Lib.hid hh1;have HD1:=Lib.hid hd1;have HL1:=Lib.hid hl1;clear hh hh1 hd1 hl1
  by_cases small:m<10
  ·have hdm:=dig_small small
   have HDM:=Lib.hid hdm;clear hdm
   have HT:Hid (dig n.natAbs=dgt m::cs.drop (j+2)):=by have:=HD.out;rw [HDM.out]at this;exact this
   by_cases neg:n<0
   ·have hh2:((wr.setCell ⟨w.heap.size,j+1,none⟩ (.int .u8 (48+(m:Int)%10))).setCell ⟨w.heap.size,j,none⟩ (.int .u8 45)).heap[w.heap.size]?=some (.cells (byteCells ((cs.set (j+1) (dgt m)).set j 45)) 212 (0,0)):=by
     exact(heap_setCell_same _ _ _ _ _ _ HH1.out).trans (congrArg (fun x=>some (Obj.cells x 212 (0,0))) (byteCells_set _ j 45))
    have hcv:=conv20 w.heap.size j (20-j) rfl (txt n) _ _ hh2 (by rw [List.length_set];exact HL1.out) (by rw [drop_set _ _ _ (by rw [HL1.out];omega),HD1.out,txt,if_pos neg,HT.out])
    have hsl:=slice20 w.heap.size ((j:Int)+2-1-1) j (by omega) (by omega)
    clear hh2
    go_wp2
    go_ret
    exact⟨rfl,hB1.setCell (Nat.le_refl _) _⟩
   ·have hcv:=conv20 w.heap.size (j+1) (19-j) (by omega) (txt n) _ _ HH1.out HL1.out (by rw [HD1.out,txt,if_neg neg,HT.out])
    have hsl:=slice20 w.heap.size ((j:Int)+2-1) (j+1) (by omega) (by omega)
    go_wp2
    go_ret
    exact⟨rfl,hB1⟩
  ·have hdm:=dig_big small
   have HDM:=Lib.hid hdm;clear hdm
   go_wp2
   go_roundw
   case rel=>
    have hj:1<=j:=by
     rcases Nat.eq_zero_or_pos j with h|h
     ·have:=HM.out;subst h;omega
     ·exact h
    refine⟨j+1,m/10,cs.set (j+1) (dgt m),by go_num,by go_num,by omega,by omega,?_,by omega,HL1.out,HH1.out,hB1,?_⟩
    ·have:=HM.out
     obtain⟨i,rfl⟩: ∃i,j=i+1:=⟨j-1,by omega⟩
     rw [show i+1+2-1=i+1+1 by omega,pow10]at this
     rw [show i+1+1-1=i+1 by omega]
     omega
    ·exact Lib.hid (by rw [HD.out,HDM.out,HD1.out,List.append_assoc];rfl)
   case measure=>simp [intOf];omega
def strM:ByteArray:=⟨#[109]⟩
def strF:ByteArray:=⟨#[102]⟩
def exU (l:List RIns):RUnit:=⟨strM,1,[],[⟨strF,1,true,0⟩],[],l⟩
theorem lawx_any (n:Int) (w:World):Calls Tryz.prog 24 #[.int .i64 n] w fun e w'=>e= .returned (.agg #[.int .i64 1,.int .i64 n])/\Below w.heap.size w w':=by
 go_in
 go_wp2_with fail
 refine bodyPost_ret (results_cell_row rfl _ _ w.heap.size _ _ _ _ rfl (heap_alloc_new _ _) Tryz.underlying42 rfl (by kernel_rfl)) rfl ?_
 exact⟨rfl,(Below.refl _ _).alloc (Nat.le_refl _) _⟩
def RwsIn {α:Type} (size:Nat) (R:List Value->α->Prop):List Value->List α->Prop
 |xs,[]=>xs= []
 |xs,t::ts=> ∃cs ys,xs=cs++ys/\cs.length=size/\R cs t/\RwsIn size R ys ts
theorem RwsIn.get {α:Type} {size:Nat} {R:List Value->α->Prop}: ∀{ts:List α} {xs:List Value},RwsIn size R xs ts-> ∀j (h:j<ts.length),∃cs:List Value,cs.length=size/\(∀i,i<size->xs[j*size+i]?=cs[i]?)/\R cs ts[j]
 |[],_,_,j,h=>absurd h (Nat.not_lt_zero _)
 |t::ts,_,⟨cs,ys,a,b,c,d⟩,0,_=>⟨cs,b,fun i hi=>by rw [a,Nat.zero_mul,Nat.zero_add,List.getElem?_append_left (by omega)],c⟩
 |t::ts,_,⟨cs,ys,a,b,c,d⟩,j+1,h=>by
  obtain⟨cs',h1,h2,h3⟩:=RwsIn.get d j (by simpa using h)
  refine⟨cs',h1,fun i hi=>?_,h3⟩
  rw [a,List.getElem?_append_right (by rw [b,Nat.succ_mul];omega),<-h2 i hi]
  congr 1
  rw [b,Nat.succ_mul];omega
theorem sl_rows {α:Type} {w:World} {size b:Nat} {T:TypeId} {R:List Value->α->Prop} {xs:List Value} {l:List α} (h:w.heap[b]?=some (.cells xs.toArray T (0,0))) (hr:RwsIn size R xs l):SlAt w size R (some ⟨b,0,none⟩) l:=
 .inr ⟨b,0,rfl,lt_of_row h,fun j hj=>by
  obtain⟨cs,h1,h2,h3⟩:=hr.get j hj
  exact⟨cs,h1,fun i hi=>by rw [cell_of_row _ _ _ _ _ _ h,Nat.zero_add,<-h2 i hi,List.getElem?_toArray],h3⟩⟩
theorem infoIns2:(Tryz.prog.info? 47).map (fun i=>(i.zero,i.size,i.bytes))=some (some (.agg #[.int .i64 0,.int .i64 0,.int .i64 0,.slice none 0 0,.int .i64 0,.int .i64 0,.int .i64 0,.string ⟨#[]⟩,.slice none 0 0,.slice none 0 0]),10,136):=by kernel_rfl
theorem three_allocs (w:World) (o0 o1 o2:Obj):(((w.alloc o0).alloc o1).alloc o2).heap[w.heap.size]?=some o0/\(((w.alloc o0).alloc o1).alloc o2).heap[w.heap.size+1]?=some o1 /\
  (((w.alloc o0).alloc o1).alloc o2).heap[w.heap.size+1+1]?=some o2/\Below w.heap.size w (((w.alloc o0).alloc o1).alloc o2):=by
 have s: ∀(x:World) (o:Obj),(x.alloc o).heap.size=x.heap.size+1:=fun x o=>by simp
 have n: ∀(x:World) (o:Obj),(x.alloc o).heap[x.heap.size]?=some o:=fun x o=>heap_alloc_new x o
 have k: ∀(x:World) (o:Obj) (j:Nat) (p:Obj),x.heap[j]?=some p->(x.alloc o).heap[j]?=some p:=fun x o j p h=>(Below.heap_alloc x o j (lt_of_row h)).trans h
 have e1:=n (w.alloc o0) o1;rw [s]at e1
 have e2:=n ((w.alloc o0).alloc o1) o2;rw [s,s]at e2
 exact⟨k _ _ _ _ (k _ _ _ _ (n w o0)),k _ _ _ _ e1,e2,(((Below.refl _ _).alloc (Nat.le_refl _) _).alloc (by rw [s];omega) _).alloc (by rw [s,s];omega) _⟩
theorem own_empty {w:World} {g:Nat} (h:w.heap[g]?=some (.cells #[] 47 (0,0))):w.ownsRow 0 47 10 (.slice (some ⟨g,0,none⟩) 0 0) 0 []:=
 ⟨by simp,.inr ⟨g,0,#[],rfl,Nat.zero_le _,h,Nat.le_refl _,Nat.zero_le _,by simp,by simp⟩⟩
theorem six_cells {w:World} {b:Nat} {T:TypeId} {v0 v1 v2 v3 v4 v5:Value} (h:w.heap[b]?=some (.cells #[v0,v1,v2,v3,v4,v5] T (0,0))):
  w.cell? ⟨b,0,none⟩=some v0/\w.cell? ⟨b,1,none⟩=some v1/\w.cell? ⟨b,2,none⟩=some v2/\w.cell? ⟨b,3,none⟩=some v3/\w.cell? ⟨b,4,none⟩=some v4/\w.cell? ⟨b,5,none⟩=some v5:=
 ⟨cell_of_row w b 0 _ _ _ h,cell_of_row w b 1 _ _ _ h,cell_of_row w b 2 _ _ _ h,cell_of_row w b 3 _ _ _ h,cell_of_row w b 4 _ _ _ h,cell_of_row w b 5 _ _ _ h⟩
theorem six_set {w:World} {b:Nat} {T:TypeId} {v0 v1 v2 v3 v4 v5:Value} (h:w.heap[b]?=some (.cells #[v0,v1,v2,v3,v4,v5] T (0,0))) (u0 u1 u2 u3 u4 u5:Value):
  ((((((w.setCell ⟨b,0,none⟩ u0).setCell ⟨b,1,none⟩ u1).setCell ⟨b,2,none⟩ u2).setCell ⟨b,3,none⟩ u3).setCell ⟨b,4,none⟩ u4).setCell ⟨b,5,none⟩ u5).heap[b]?=some (.cells #[u0,u1,u2,u3,u4,u5] T (0,0)):=by
 have a0:(World.setCell w ⟨b,0,none⟩ u0).heap[b]?=_:=heap_setCell_same _ b 0 _ _ _ h
 have a1:(World.setCell _ ⟨b,1,none⟩ u1).heap[b]?=_:=heap_setCell_same _ b 1 _ _ _ a0
 have a2:(World.setCell _ ⟨b,2,none⟩ u2).heap[b]?=_:=heap_setCell_same _ b 2 _ _ _ a1
 have a3:(World.setCell _ ⟨b,3,none⟩ u3).heap[b]?=_:=heap_setCell_same _ b 3 _ _ _ a2
 have a4:(World.setCell _ ⟨b,4,none⟩ u4).heap[b]?=_:=heap_setCell_same _ b 4 _ _ _ a3
 exact heap_setCell_same _ b 5 _ _ _ a4
theorem six_low {B:Nat} {w0 w:World} {b:Nat} (hb:Below B w0 w) (h:B<=b) (u0 u1 u2 u3 u4 u5:Value):
  Below B w0 ((((((w.setCell ⟨b,0,none⟩ u0).setCell ⟨b,1,none⟩ u1).setCell ⟨b,2,none⟩ u2).setCell ⟨b,3,none⟩ u3).setCell ⟨b,4,none⟩ u4).setCell ⟨b,5,none⟩ u5):=
 (((((hb.setCell (p:=⟨b,0,none⟩) h u0).setCell (p:=⟨b,1,none⟩) h u1).setCell (p:=⟨b,2,none⟩) h u2).setCell (p:=⟨b,3,none⟩) h u3).setCell (p:=⟨b,4,none⟩) h u4).setCell (p:=⟨b,5,none⟩) h u5
theorem six_other {w:World} {b q:Nat} (h:q≠b) (u0 u1 u2 u3 u4 u5:Value):
  ((((((w.setCell ⟨b,0,none⟩ u0).setCell ⟨b,1,none⟩ u1).setCell ⟨b,2,none⟩ u2).setCell ⟨b,3,none⟩ u3).setCell ⟨b,4,none⟩ u4).setCell ⟨b,5,none⟩ u5).heap[q]?=w.heap[q]?:=by
 have k: ∀(x:World) (i:Nat) (u:Value),(x.setCell ⟨b,i,none⟩ u).heap[q]?=x.heap[q]?:=fun x i u=>heap_setCell_other _ _ _ _ h
 rw [k,k,k,k,k,k]
def UnitQ (l:List RIns) (n:Nat) (e:Ending) (w':World):Prop:=
 ∃fo fc co cc,e= .returned (.agg #[.string strM,.int .i64 1,.slice none 0 0,.slice fo 1 fc,.slice none 0 0,.slice co n cc])/\UP w' (exU l) none fo none co
def UnitN (w:World) (l:List RIns) (n:Nat) (R:List Value->RIns->Prop) (e:Ending) (w':World):Prop:=
 ∃f fc g cc,e= .returned (.agg #[.string strM,.int .i64 1,.slice none 0 0,.slice (some ⟨f,0,none⟩) 1 fc,.slice none 0 0,.slice (some ⟨g,0,none⟩) n cc])/\w.heap.size<=f/\w.heap.size<=g/\SlAt w' 4 FuncR (some ⟨f,0,none⟩) (exU l).funcs/\SlAt w' 10 R (some ⟨g,0,none⟩) l
theorem exU_up {w:World} {l:List RIns} {fo co:Option Addr} (h1:SlAt w 4 FuncR fo (exU l).funcs) (h2:SlAt w 10 (InsR w) co l) (h3:l.length<=100000):UP w (exU l) none fo none co:=
 ⟨.inl rfl,h1,.inl rfl,h2,by show(1:Nat)<=_;decide,by show I64 1;unfold I64;decide,by show(0:Nat)<=_;decide,by show(1:Nat)<=_;decide,by show(0:Nat)<=_;decide,by show l.length<=_;omega⟩
theorem unit_new (R:List Value->RIns->Prop) (hone: ∀cs a,R cs a-> ∀v∈cs,v.oneCell'=true) (l:List RIns) (n:Nat) (hn:n=l.length) (co:Option Addr) (cc:Nat) (w:World) (h:SlAt w 10 R co l) (h0:l≠ []) (h1:l.length<=100000):
  Calls Tryz.prog 25 #[.slice co n cc] w fun e w'=>UnitN w l n R e w'/\Below w.heap.size w w':=by
 obtain⟨b,off,rfl,hb,hr⟩:=h.rows h0
 obtain⟨vs,e1,e2,e3⟩:=rows_values hr hone
 obtain⟨i0,hi,hz0,hz1,hz2⟩:=info_parts infoIns2
 obtain⟨hZ,hF,hE,hB3⟩:=three_allocs w (.cells #[.string ⟨#[]⟩,.int .i64 0,.slice none 0 0,.slice none 0 0,.slice none 0 0,.slice none 0 0] 27) (.cells #[.string ⟨#[102]⟩,.int .i64 1,.bool true,.int .i64 0] 106) (.cells #[] 47)
 have HOWN:=Lib.hid (own_empty hE)
 have HNEWS:Hid (∀j u,vs[j]?=some u->(((w.alloc (.cells #[.string ⟨#[]⟩,.int .i64 0,.slice none 0 0,.slice none 0 0,.slice none 0 0,.slice none 0 0] 27)).alloc (.cells #[.string ⟨#[102]⟩,.int .i64 1,.bool true,.int .i64 0] 106)).alloc (.cells #[] 47)).cell? ((⟨b,off,none⟩:Addr).add j)=some u):=Lib.hid fun j u hj=>by
  have hjl:j<l.length*10:=by rw [<-e1];exact(List.getElem?_eq_some_iff.1 hj).1
  rw [<-hj,<-e2 j hjl,show(⟨b,off,none⟩:Addr).add j=⟨b,off+j,none⟩by simp [Addr.add]]
  exact hB3.cell (p:=⟨b,off+j,none⟩) hb
 have hpos:0<n:=by rw [hn];exact List.length_pos_iff.2 h0
 have h63:0+n<=maxLen:=by unfold maxLen;omega
 have hby:(0+n)*136<=140737488355328:=by omega
 have H63:=Lib.hid h63;have HBY:=Lib.hid hby;have HPOS:=Lib.hid hpos;have HB3:=Lib.hid hB3;have HZ:=Lib.hid hZ;have HF:=Lib.hid hF
 have HR:Hid (∀w' g,(∀k,k<n*10->w'.cell? ⟨g,0+k,none⟩=vs[k]?)->Below w.heap.size w w'->g<w'.heap.size->SlAt w' 10 R (some ⟨g,0,none⟩) l):=Lib.hid fun w' g hk hbw hg=>.inr ⟨g,0,rfl,hg,rows_copy hr e2 (by rw [<-hn];exact hk) (fun cs a h=>h)⟩
 rw [<-hn]at e1
 have HL:=Lib.hid e1;have H1:=Lib.hid e3;have HN:=Lib.hid hn
 clear hr e1 e2 e3 h h0 h1 hone hb hE hF hZ hB3 h63 hby hpos hn
 go_in
 go_wp2_with (at_builtin;refine wpList_append_lies _ rfl (.tmp 5) (.tmp 6) 25 rfl 0 47 i0 _ 10 136 Tryz.underlying25 hi hz0 hz1 hz2 rfl (by decide) _ 0 _ rfl HOWN.out ⟨b,off,none⟩ n cc vs rfl HL.out HNEWS.out H1.out HPOS.out H63.out HBY.out (Nat.zero_le _) _ rfl ?_;intro g cap w3 ho3 hg3 hat hlt3;rw [Nat.zero_add]at ho3 ⊢;rw [List.nil_append]at ho3;have hx3:=(hg3.block w.heap.size (lt_of_row HZ.out) (fun e=>by have:w.heap.size=w.heap.size+1+1:=Option.some.inj e;omega)).trans HZ.out;obtain⟨p0,p1,p2,p3,p4,p5⟩:=six_cells hx3;have z0:=frozen_of_row w3 w.heap.size 0 _ _ hx3;have z1:=frozen_of_row w3 w.heap.size 1 _ _ hx3;have z2:=frozen_of_row w3 w.heap.size 2 _ _ hx3;have z3:=frozen_of_row w3 w.heap.size 3 _ _ hx3;have z4:=frozen_of_row w3 w.heap.size 4 _ _ hx3;have z5:=frozen_of_row w3 w.heap.size 5 _ _ hx3;have HX3:=Lib.hid hx3)
 have hx3:=HX3.out
 refine bodyPost_ret (results_cell_row rfl _ _ w.heap.size _ _ _ _ rfl (six_set hx3 _ _ _ _ _ _) Tryz.underlying27 rfl (by kernel_rfl)) rfl ?_
 have hs3:=HB3.out.size
 have hgne:g≠w.heap.size:=hat.elim (fun e=>by have:w.heap.size+1+1=g:=Option.some.inj e;omega) (fun e=>by rw [e];simp;omega)
 have hbw:=six_low (b:=w.heap.size) (HB3.out.grown hg3 hs3 (fun k e=>by have:w.heap.size+1+1=k:=Option.some.inj e;omega)) (Nat.le_refl _) (.string ⟨#[109]⟩) (.int .i64 1) (.slice none 0 0) (.slice (some ⟨w.heap.size+1,0,none⟩) 1 1) (.slice none 0 0) (.slice (some ⟨g,0,none⟩) n cap)
 have hf:=(six_other (b:=w.heap.size) (q:=w.heap.size+1) (by omega) (.string ⟨#[109]⟩) (.int .i64 1) (.slice none 0 0) (.slice (some ⟨w.heap.size+1,0,none⟩) 1 1) (.slice none 0 0) (.slice (some ⟨g,0,none⟩) n cap)).trans ((hg3.block (w.heap.size+1) (lt_of_row HF.out) (fun e=>by have:w.heap.size+1=w.heap.size+1+1:=Option.some.inj e;omega)).trans HF.out)
 have hc:=(owns_cells ho3).2.2.2
 have hgw:w.heap.size<=g:=hat.elim (fun e=>by have:w.heap.size+1+1=g:=Option.some.inj e;omega) (fun e=>by rw [e];simp;omega)
 refine⟨⟨w.heap.size+1,1,g,cap,rfl,Nat.le_succ _,hgw,.inr ⟨w.heap.size+1,0,rfl,lt_of_row hf,fun j hj=>?_⟩,HR.out _ g (fun k hk=>?_) hbw (by simpa using hlt3)⟩,hbw⟩
 ·obtain rfl:j=0:=by have hj:j<1:=hj;omega
  refine⟨[.string ⟨#[102]⟩,.int .i64 1,.bool true,.int .i64 0],rfl,fun k hk=>?_,rfl,by show(1:Nat)<=_;unfold maxLen;decide,by show I64 1;unfold I64;decide,by show I64 0;unfold I64;decide⟩
  rw [cell_of_row _ _ _ _ _ _ hf,show 0+0*4+k=k by omega]
  simp
 ·rw [<-hc k hk]
  exact World.cell?_of_block (six_other hgne _ _ _ _ _ _)
theorem unit_any (l:List RIns) (n:Nat) (hn:n=l.length) (co:Option Addr) (cc:Nat) (w:World) (h:SlAt w 10 (InsR w) co l) (h0:l≠ []) (h1:l.length<=100000):
  Calls Tryz.prog 25 #[.slice co n cc] w fun e w'=>UnitQ l n e w'/\Below w.heap.size w w':=
 (unit_new (InsR w) insR_one l n hn co cc w h h0 h1).mono fun e w' ⟨⟨f,fc,g,cc',a1,_,_,a4,a5⟩,hb⟩=>
  ⟨⟨some ⟨f,0,none⟩,fc,some ⟨g,0,none⟩,cc',a1,exU_up a4 (by rcases a5 with a5|⟨b,off,b1,b2,b3⟩;exact .inl a5;exact .inr ⟨b,off,b1,b2,fun j hj=>by obtain⟨cs,c1,c2,c3⟩:=b3 j hj;exact⟨cs,c1,c2,c3.below hb⟩⟩) h1⟩,hb⟩
def kI (op dk dn:Int) (src:List RArg) (to' n:Int):RIns:=⟨op,⟨dk,dn⟩,src,to',n,0,⟨#[]⟩,[],[]⟩
def kR (op dk dn:Int) (so:Option Addr) (sn:Nat) (to' n:Int):List Value:=[.int .i64 op,.int .i64 dk,.int .i64 dn,.slice so sn sn,.int .i64 to',.int .i64 n,.int .i64 0,.string ⟨#[]⟩,.slice none 0 0,.slice none 0 0]
def smallI (n:Int):Bool:=decide (-1000<=n/\n<=1000)
theorem smallI_64 {n:Int} (h:smallI n=true):I64 n:=by have:=of_decide_eq_true h;unfold I64;omega
theorem kR_none (w:World) (op dk dn to' n:Int) (h:(smallI op&&(smallI dk&&(smallI dn&&(smallI to'&&smallI n))))=true):InsR w (kR op dk dn none 0 to' n) (kI op dk dn [] to' n):=by
 simp only [Bool.and_eq_true]at h
 obtain⟨h1,h2,h3,h4,h5⟩:=h
 exact⟨⟨none,0,none,0,none,0,rfl,.inl rfl,.inl rfl,.inl rfl⟩,smallI_64 h1,smallI_64 h2,smallI_64 h3,Nat.zero_le _,smallI_64 h4,smallI_64 h5,smallI_64 rfl,Nat.zero_le _,Nat.zero_le _,Nat.zero_le _⟩
theorem kR_some {w:World} {O:Nat} {T:TypeId} {r:Int} (ho:w.heap[O]?=some (.cells #[.int .i64 1,.int .i64 r] T (0,0))) (hr:smallI r=true) (op dk dn to' n:Int) (h:(smallI op&&(smallI dk&&(smallI dn&&(smallI to'&&smallI n))))=true):InsR w (kR op dk dn (some ⟨O,0,none⟩) 1 to' n) (kI op dk dn [⟨1,r⟩] to' n):=by
 simp only [Bool.and_eq_true]at h
 obtain⟨h1,h2,h3,h4,h5⟩:=h
 refine⟨⟨some ⟨O,0,none⟩,1,none,0,none,0,rfl,.inr ⟨O,0,rfl,lt_of_row ho,fun j hj=>?_⟩,.inl rfl,.inl rfl⟩,smallI_64 h1,smallI_64 h2,smallI_64 h3,by show(1:Nat)<=maxLen;unfold maxLen;omega,smallI_64 h4,smallI_64 h5,smallI_64 rfl,Nat.zero_le _,Nat.zero_le _,Nat.zero_le _⟩
 obtain rfl:j=0:=by have hj:j<1:=hj;omega
 refine⟨[.int .i64 1,.int .i64 r],rfl,fun k hk=>?_,rfl,smallI_64 rfl,smallI_64 hr⟩
 rw [cell_of_row _ _ _ _ _ _ ho,show 0+0*2+k=k by omega]
 simp
theorem ten_cells {w:World} {b:Nat} {T:TypeId} {v0 v1 v2 v3 v4 v5 v6 v7 v8 v9:Value} (h:w.heap[b]?=some (.cells #[v0,v1,v2,v3,v4,v5,v6,v7,v8,v9] T (0,0))):
  w.cell? ⟨b,0,none⟩=some v0/\w.cell? ⟨b,1,none⟩=some v1/\w.cell? ⟨b,2,none⟩=some v2/\w.cell? ⟨b,3,none⟩=some v3/\w.cell? ⟨b,4,none⟩=some v4/\w.cell? ⟨b,5,none⟩=some v5/\w.cell? ⟨b,6,none⟩=some v6/\w.cell? ⟨b,7,none⟩=some v7/\w.cell? ⟨b,8,none⟩=some v8/\w.cell? ⟨b,9,none⟩=some v9:=
 ⟨cell_of_row w b 0 _ _ _ h,cell_of_row w b 1 _ _ _ h,cell_of_row w b 2 _ _ _ h,cell_of_row w b 3 _ _ _ h,cell_of_row w b 4 _ _ _ h,cell_of_row w b 5 _ _ _ h,cell_of_row w b 6 _ _ _ h,cell_of_row w b 7 _ _ _ h,cell_of_row w b 8 _ _ _ h,cell_of_row w b 9 _ _ _ h⟩
def kl12:List RIns:=[kI 1 1 1 [⟨1,0⟩] 0 0,kI 26 0 0 [] 0 0]
def kc12 (O:Nat):List Value:=kR 1 1 1 (some ⟨O,0,none⟩) 1 0 0++(kR 26 0 0 none 0 0 0++ [])
abbrev KO12 (O:Nat):Obj:=.cells #[.int .i64 1,.int .i64 1,.int .i64 1,.slice (some ⟨O,0,none⟩) 1 1,.int .i64 0,.int .i64 0,.int .i64 0,.string ⟨#[]⟩,.slice none 0 0,.slice none 0 0,.int .i64 26,.int .i64 0,.int .i64 0,.slice none 0 0,.int .i64 0,.int .i64 0,.int .i64 0,.string ⟨#[]⟩,.slice none 0 0,.slice none 0 0] 47
theorem ks12 {w:World} {O A:Nat} {T T':TypeId} (ho:w.heap[O]?=some (.cells #[.int .i64 1,.int .i64 0] T' (0,0))) (h:w.heap[A]?=some (.cells (kc12 O).toArray T (0,0))):SlAt w 10 (InsR w) (some ⟨A,0,none⟩) kl12:=sl_rows h ⟨_,_,rfl,rfl,kR_some ho rfl _ _ _ _ _ rfl,⟨_,_,rfl,rfl,kR_none _ _ _ _ _ _ rfl,rfl⟩⟩
def kl13:List RIns:=[kI 26 0 0 [] 0 0,kI 1 1 1 [⟨1,2⟩] 0 0,kI 26 0 0 [] 0 0]
def kc13 (O:Nat):List Value:=kR 26 0 0 none 0 0 0++(kR 1 1 1 (some ⟨O,0,none⟩) 1 0 0++(kR 26 0 0 none 0 0 0++ []))
abbrev KO13 (O:Nat):Obj:=.cells #[.int .i64 26,.int .i64 0,.int .i64 0,.slice none 0 0,.int .i64 0,.int .i64 0,.int .i64 0,.string ⟨#[]⟩,.slice none 0 0,.slice none 0 0,.int .i64 1,.int .i64 1,.int .i64 1,.slice (some ⟨O,0,none⟩) 1 1,.int .i64 0,.int .i64 0,.int .i64 0,.string ⟨#[]⟩,.slice none 0 0,.slice none 0 0,.int .i64 26,.int .i64 0,.int .i64 0,.slice none 0 0,.int .i64 0,.int .i64 0,.int .i64 0,.string ⟨#[]⟩,.slice none 0 0,.slice none 0 0] 47
theorem ks13 {w:World} {O A:Nat} {T T':TypeId} (ho:w.heap[O]?=some (.cells #[.int .i64 1,.int .i64 2] T' (0,0))) (h:w.heap[A]?=some (.cells (kc13 O).toArray T (0,0))):SlAt w 10 (InsR w) (some ⟨A,0,none⟩) kl13:=sl_rows h ⟨_,_,rfl,rfl,kR_none _ _ _ _ _ _ rfl,⟨_,_,rfl,rfl,kR_some ho rfl _ _ _ _ _ rfl,⟨_,_,rfl,rfl,kR_none _ _ _ _ _ _ rfl,rfl⟩⟩⟩
def kl14:List RIns:=[kI 1 1 1 [⟨1,2⟩] 0 0,kI 26 0 0 [] 0 0]
def kc14 (O:Nat):List Value:=kR 1 1 1 (some ⟨O,0,none⟩) 1 0 0++(kR 26 0 0 none 0 0 0++ [])
abbrev KO14 (O:Nat):Obj:=.cells #[.int .i64 1,.int .i64 1,.int .i64 1,.slice (some ⟨O,0,none⟩) 1 1,.int .i64 0,.int .i64 0,.int .i64 0,.string ⟨#[]⟩,.slice none 0 0,.slice none 0 0,.int .i64 26,.int .i64 0,.int .i64 0,.slice none 0 0,.int .i64 0,.int .i64 0,.int .i64 0,.string ⟨#[]⟩,.slice none 0 0,.slice none 0 0] 47
theorem ks14 {w:World} {O A:Nat} {T T':TypeId} (ho:w.heap[O]?=some (.cells #[.int .i64 1,.int .i64 2] T' (0,0))) (h:w.heap[A]?=some (.cells (kc14 O).toArray T (0,0))):SlAt w 10 (InsR w) (some ⟨A,0,none⟩) kl14:=sl_rows h ⟨_,_,rfl,rfl,kR_some ho rfl _ _ _ _ _ rfl,⟨_,_,rfl,rfl,kR_none _ _ _ _ _ _ rfl,rfl⟩⟩
theorem two_allocs (w:World) (o0 o1:Obj):((w.alloc o0).alloc o1).heap[w.heap.size]?=some o0/\((w.alloc o0).alloc o1).heap[w.heap.size+1]?=some o1/\Below w.heap.size w ((w.alloc o0).alloc o1):=by
 have s: ∀(x:World) (o:Obj),(x.alloc o).heap.size=x.heap.size+1:=fun x o=>by simp
 have n: ∀(x:World) (o:Obj),(x.alloc o).heap[x.heap.size]?=some o:=fun x o=>heap_alloc_new x o
 have k: ∀(x:World) (o:Obj) (j:Nat) (p:Obj),x.heap[j]?=some p->(x.alloc o).heap[j]?=some p:=fun x o j p h=>(Below.heap_alloc x o j (lt_of_row h)).trans h
 have e1:=n (w.alloc o0) o1;rw [s]at e1
 exact⟨k _ _ _ _ (n w o0),e1,((Below.refl _ _).alloc (Nat.le_refl _) _).alloc (by rw [s];omega) _⟩
abbrev SkipC (b:Nat) (w:World):Prop:=
 w.cell? ⟨b,0,none⟩=some (.int .i64 39)/\w.cell? ⟨b,1,none⟩=some (.int .i64 0)/\w.cell? ⟨b,2,none⟩=some (.int .i64 0)/\w.cell? ⟨b,3,none⟩=some (.slice none 0 0)/\w.cell? ⟨b,4,none⟩=some (.int .i64 1)/\w.cell? ⟨b,5,none⟩=some (.int .i64 0)/\w.cell? ⟨b,6,none⟩=some (.int .i64 0)/\w.cell? ⟨b,7,none⟩=some (.string ⟨#[]⟩)/\w.cell? ⟨b,8,none⟩=some (.slice none 0 0)/\w.cell? ⟨b,9,none⟩=some (.slice none 0 0)
theorem SkipC.block {b:Nat} {w w':World} (h:SkipC b w) (e:w'.heap[b]?=w.heap[b]?):SkipC b w':=by
 have k: ∀i,w'.cell? ⟨b,i,none⟩=w.cell? ⟨b,i,none⟩:=fun i=>World.cell?_of_block e
 unfold SkipC
 rw [k,k,k,k,k,k,k,k,k,k]
 exact h
def setL (g:Nat):List Value->Nat->World->World
 |[],_,w=>w
 |v::l,o,w=>setL g l (o+1) (w.setCell ⟨g,o,none⟩ v)
theorem setL_low {B g:Nat} {w0:World} (hB:B<=g): ∀(l:List Value) (o:Nat) (w:World),Below B w0 w->Below B w0 (setL g l o w)
 |[],_,_,h=>h
 |v::l,o,w,h=>setL_low hB l (o+1) _ (h.setCell (p:=⟨g,o,none⟩) hB v)
theorem setL_other {g q:Nat} (hq:q≠g): ∀(l:List Value) (o:Nat) (w:World),(setL g l o w).heap[q]?=w.heap[q]?
 |[],_,_=>rfl
 |v::l,o,w=>(setL_other hq l (o+1) _).trans (heap_setCell_other _ _ _ _ hq)
theorem setL_size {g:Nat}: ∀(l:List Value) (o:Nat) (w:World),(setL g l o w).heap.size=w.heap.size
 |[],_,_=>rfl
 |v::l,o,w=>(setL_size l (o+1) _).trans (by simp)
theorem setL_row {g:Nat} {T:TypeId}: ∀(l:List Value) (o:Nat) (w:World) (arr:Array Value),w.heap[g]?=some (.cells arr T (0,0))->o+l.length<=arr.size ->
  ∃arr',(setL g l o w).heap[g]?=some (.cells arr' T (0,0))/\ ∀j,arr'[j]?=if o<=j/\j<o+l.length then l[j-o]? else arr[j]?
 |[],o,w,arr,h,_=>⟨arr,h,fun j=>by rw [if_neg (by simp<;>omega)]⟩
 |v::l,o,w,arr,h,hs=>by
  simp only [List.length_cons]at hs ⊢
  have h1:(w.setCell ⟨g,o,none⟩ v).heap[g]?=some (.cells (arr.setIfInBounds o v) T (0,0)):=heap_setCell_same _ _ o _ _ _ h
  obtain⟨arr',e1,e2⟩:=setL_row l (o+1) _ _ h1 (by simp;omega)
  refine⟨arr',e1,fun j=>?_⟩
  rw [e2 j]
  by_cases c:o+1<=j/\j<o+1+l.length
  ·rw [if_pos c,if_pos (by omega),show j-o=(j-(o+1))+1 by omega,List.getElem?_cons_succ]
  ·rw [if_neg c]
   by_cases d:j=o
   ·subst d
    rw [if_pos (by omega),Nat.sub_self,Array.getElem?_setIfInBounds_self_of_lt (by omega)]
    rfl
   ·rw [if_neg (by omega),Array.getElem?_setIfInBounds_ne (fun e=>d e.symm)]
theorem owns_row {w:World} {B g n cap size:Nat} {e:TypeId} {xs:List Value} (h:w.ownsRow B e size (.slice (some ⟨g,0,none⟩) n cap) n xs): ∃cur,w.heap[g]?=some (.cells cur e (0,0))/\n<=cap/\cur.size=cap*size:=by
 rcases h.2 with⟨h0,_⟩|⟨g',cap',cur,e1,hB,hg,h1,h2,h3,h4⟩
 ·cases h0
 ·injection e1 with e1 e2 e3
  injection e1 with e1
  injection e1 with e1
  subst e1;subst e3
  exact⟨cur,hg,h1,h3⟩
theorem sl_set {α:Type} {w:World} {size g k:Nat} {T:TypeId} {R:List Value->α->Prop} {l:List α} {arr:Array Value} {cs:List Value} {z:α} (h:SlAt w size R (some ⟨g,0,none⟩) l) (hg:w.heap[g]?=some (.cells arr T (0,0))) (hk:k<l.length)
  (ha:k*size+size<=arr.size) (hc:cs.length=size) (hz:R cs z):SlAt (setL g cs (k*size) w) size R (some ⟨g,0,none⟩) (l.set k z):=by
 rcases h with h|⟨b,off,e1,h1,h2⟩
 ·rw [h]at hk;exact absurd hk (Nat.not_lt_zero _)
 ·obtain⟨rfl,rfl⟩:g=b/\0=off:=by
   have:=Option.some.inj e1
   injection this with a1 a2
   exact⟨a1,a2⟩
  obtain⟨arr',q1,q2⟩:=setL_row cs (k*size) w arr hg (by rw [hc];exact ha)
  refine .inr ⟨g,0,rfl,by rw [setL_size];exact h1,fun j hj=>?_⟩
  rw [List.length_set]at hj
  by_cases c:j=k
  ·subst c
   refine⟨cs,hc,fun i hi=>?_,by simpa using hz⟩
   rw [cell_of_row _ _ _ _ _ _ q1,q2,if_pos (by rw [hc];omega),show 0+j*size+i-j*size=i by omega]
  ·obtain⟨cs',a1,a2,a3⟩:=h2 j hj
   refine⟨cs',a1,fun i hi=>?_,by rw [List.getElem_set_ne (fun e=>c e.symm)];exact a3⟩
   rw [<-a2 i hi,cell_of_row _ _ _ _ _ _ q1,cell_of_row _ _ _ _ _ _ hg,q2,if_neg ?_]
   intro⟨c1,c2⟩
   rw [hc]at c2
   rcases Nat.lt_or_gt_of_ne c with d|d
   ·have:(j+1)*size<=k*size:=Nat.mul_le_mul_right _ d
    rw [Nat.add_mul,Nat.one_mul]at this
    omega
   ·have:(k+1)*size<=j*size:=Nat.mul_le_mul_right _ d
    rw [Nat.add_mul,Nat.one_mul]at this
    omega
end Go.Proofs.YtepjanajflkakaaGreatDoor
