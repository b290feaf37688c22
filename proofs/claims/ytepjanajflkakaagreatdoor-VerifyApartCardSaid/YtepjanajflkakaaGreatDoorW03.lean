import Derived.Test.YtepjanajflkakaaGreatDoorW01
namespace Go.Proofs.YtepjanajflkakaaGreatDoor
open Go.RowKit
set_option linter.unusedVariables false
set_option linter.unusedSimpArgs false
set_option maxRecDepth 100000
set_option maxHeartbeats 0
def zM (i b:Nat):Bool:=decide (97<=b/\b<=122\/0<i/\(65<=b/\b<=90\/48<=b/\b<=57\/b=95\/b=64))
def zy (s:ByteArray):Bool:=decide (0<s.size)&&decide (s.size<=32)&&decide (∀i,(h:i<s.size)->zM i s[i].toNat=true)
theorem zjG {s:ByteArray} {i:Nat} (h:i<s.size) (e:zM i s[i].toNat=false):zy s=false:=by
 unfold zy
 have:decide (∀i,(h:i<s.size)->zM i s[i].toNat=true)=false:=by
  apply zzD;intro hh;have:=hh i h;rw [e]at this;simp at this
 rw [this,Bool.and_false]
theorem zhW {s:ByteArray} (h0:0<s.size) (h1:s.size<=32) (h: ∀i,(h:i<s.size)->zM i s[i].toNat=true):zy s=true:=by
 unfold zy;rw [decide_eq_true h0,decide_eq_true h1,decide_eq_true h];rfl
theorem zfJ {i b:Nat} (h:123<=b):zM i b=false:=by unfold zM;apply zzD;omega
theorem zdU {s:ByteArray} (h: ¬(0<s.size/\s.size<=32)):zy s=false:=by
 unfold zy;by_cases h0:0<s.size
 ·rw [decide_eq_false (p:=s.size<=32) (by omega),Bool.and_false,Bool.false_and]
 ·rw [decide_eq_false h0,Bool.false_and,Bool.false_and]
theorem zlf (s:ByteArray) (pos:Nat) (hp:pos<s.size):zM pos (Utf8.decode s pos).1=zM pos s[pos].toNat/\(zM pos s[pos].toNat=true->(Utf8.decode s pos).2=1):=by
 by_cases ha:s[pos].toNat<128
 ·rw [decode_ascii s pos hp ha];exact⟨rfl,fun _=>rfl⟩
 ·have h:=(decode_high s pos hp (by omega)).1
  rw [zfJ (by omega),zfJ (by omega)];exact⟨rfl,fun e=>by simp at e⟩
theorem zb1 (w:World) (s:ByteArray) (pos:Nat):Below w.heap.size w (w.iter s pos):=zzE _ _
theorem zcb (s:ByteArray) (w:World):Calls Tryz.prog 69 #[.string s] w fun e w'=>e= .returned (.bool (zy s))/\Below w.heap.size w w':=by
 have HL:Hid (¬(0<s.size/\s.size<=32)->zy s=false):=zzH zdU;by_cases hs0:s.size=0
 ·have he:s=ByteArray.empty:=by
   have h:s.data.size=0:=hs0;exact ByteArray.ext (Array.eq_empty_of_size_eq_zero h)
  subst he;have HV:Hid (zy ByteArray.empty=false):=zzH (zdU (by simp));clear HL;go_in;go_wp2;go_ret;exact⟨zi HV.out.symm,zzR _ _⟩
 ·have hne: ¬s.toList= []:=by
   rw [ByteArray.toList_eq];intro e;have h2:=congrArg List.length e;exact hs0 (by simpa using h2)
  have hne2:s.toList.isEmpty=false:=by cases h:s.toList with|nil=>exact absurd h hne|cons _ _=>rfl
  by_cases hs1:32<s.size
  ·have HV:Hid (zy s=false):=zzH (zdU (by omega))
   have g1:decide ((32:Int)<(s.size:Int))=true:=by simp;omega
   clear HL;go_in;go_wp2;go_ret;exact⟨zi HV.out.symm,zzR _ _⟩
  ·have g1:decide ((32:Int)<(s.size:Int))=false:=by simp;omega
   clear HL;go_in;go_wp2_with fail;go_loopw [] (fun wr=> ∃pos:Nat,pos<=s.size/\wr=w.iter s pos/\Hid (∀i,(h:i<s.size)->i<pos->zM i s[i].toNat=true)) (fun wr=>s.size-wr.iterPos w.heap.size)
   case atStart=>exact⟨0,zzZ _,rfl,zzH (fun i _ h=>absurd h (zzC _))⟩
   case round=>
    obtain⟨pos,hpl,rfl,HG⟩:=hrel;by_cases hp:pos<s.size
    ·have hnx: ∀ty,(Instr.next (.pointer (some ⟨w.heap.size,0,none⟩)) true ty).run Tryz.prog (w.iter s pos)=_:=fun ty=>run_next_any w s pos ty hp
     have HR:=zzH (zlf s pos hp);have HB:Hid (zM pos s[pos].toNat=false->zy s=false):=zzH (zjG hp)
     have HK:Hid (zM pos s[pos].toNat=true->(∀i,(h:i<s.size)->i<pos+1->zM i s[i].toNat=true)):=zzH (fun e i h h1=>by
      rcases Nat.lt_or_ge i pos with h2|h2
      ·exact HG.out i h h2
      ·obtain rfl:i=pos:=by omega
       exact e)
     generalize(Utf8.decode s pos).1=c at *;generalize(Utf8.decode s pos).2=d at *;by_cases r8:97<=c/\c<=122
     ·have hc:97<=c/\c<=122:=by omega
      have q0:decide ((97:Int)<=(c:Int))=true:=by simp;omega
      have q1:decide ((c:Int)<=122)=true:=by simp;omega
      have q2:decide ((65:Int)<=(c:Int))=true:=by simp;omega
      have q3:decide ((c:Int)<=90)=false:=by simp;omega
      have q4:decide ((48:Int)<=(c:Int))=true:=by simp;omega
      have q5:decide ((c:Int)<=57)=false:=by simp;omega
      have q6:((c:Int)==95)=false:=by simp;omega
      have q7:((c:Int)==64)=false:=by simp;omega
      have hok:Hid (zM pos c=true):=zzH (by unfold zM;apply zzT;omega);have hok2:Hid (zM pos s[pos].toNat=true):=zzH (by rw [<-HR.out.1];exact hok.out);obtain rfl:=HR.out.2 hok2.out;have HG2:=zzH (HK.out hok2.out);clear HG HK HB HR hok hok2;go_wp2_with fail;go_roundw
      case rel=>exact⟨_,by omega,rfl,HG2⟩
      case measure=>simp;omega
     ·by_cases hz:pos=0
      ·obtain rfl:=hz
       by_cases r10:c<=47
       ·have hc:0<=c/\c<=47:=by omega
        have q0:decide ((97:Int)<=(c:Int))=false:=by simp;omega
        have q1:decide ((c:Int)<=122)=true:=by simp;omega
        have q2:decide ((65:Int)<=(c:Int))=false:=by simp;omega
        have q3:decide ((c:Int)<=90)=true:=by simp;omega
        have q4:decide ((48:Int)<=(c:Int))=false:=by simp;omega
        exact zz28
       ·by_cases r11:c<=57
        ·have hc:48<=c/\c<=57:=by omega
         have q0:decide ((97:Int)<=(c:Int))=false:=by simp;omega
         have q1:decide ((c:Int)<=122)=true:=by simp;omega
         have q2:decide ((65:Int)<=(c:Int))=false:=by simp;omega
         have q3:decide ((c:Int)<=90)=true:=by simp;omega
         have q4:decide ((48:Int)<=(c:Int))=true:=by simp;omega
         exact zz28
        ·by_cases r12:c<=63
         ·have hc:58<=c/\c<=63:=by omega
          have q0:decide ((97:Int)<=(c:Int))=false:=by simp;omega
          have q1:decide ((c:Int)<=122)=true:=by simp;omega
          have q2:decide ((65:Int)<=(c:Int))=false:=by simp;omega
          exact zz26
         ·by_cases r13:c<=64
          ·have hc:64<=c/\c<=64:=by omega
           obtain rfl:c=64:=by omega
           have hok:Hid (zM 0 64=false):=zzH (by unfold zM;apply zzD;omega);exact zz29
          ·by_cases r14:c<=90
           ·have hc:65<=c/\c<=90:=by omega
            have q0:decide ((97:Int)<=(c:Int))=false:=by simp;omega
            have q1:decide ((c:Int)<=122)=true:=by simp;omega
            have q2:decide ((65:Int)<=(c:Int))=true:=by simp;omega
            exact zz26
           ·by_cases r15:c<=94
            ·have hc:91<=c/\c<=94:=by omega
             have q0:decide ((97:Int)<=(c:Int))=false:=by simp;omega
             have q1:decide ((c:Int)<=122)=true:=by simp;omega
             exact zz25
            ·by_cases r16:c<=95
             ·have hc:95<=c/\c<=95:=by omega
              obtain rfl:c=95:=by omega
              have hok:Hid (zM 0 95=false):=zzH (by unfold zM;apply zzD;omega);exact zz29
             ·by_cases r17:c<=96
              ·have hc:96<=c/\c<=96:=by omega
               obtain rfl:c=96:=by omega
               have hok:Hid (zM 0 96=false):=zzH (by unfold zM;apply zzD;omega);exact zz29
              ·have hc:123<=c:=by omega
               have q0:decide ((97:Int)<=(c:Int))=true:=by simp;omega
               have q1:decide ((c:Int)<=122)=false:=by simp;omega
               exact zz25
      ·by_cases r10:c<=47
       ·have hc:0<=c/\c<=47:=by omega
        have q0:decide ((97:Int)<=(c:Int))=false:=by simp;omega
        have q1:decide ((c:Int)<=122)=true:=by simp;omega
        have q2:decide ((65:Int)<=(c:Int))=false:=by simp;omega
        have q3:decide ((c:Int)<=90)=true:=by simp;omega
        have q4:decide ((48:Int)<=(c:Int))=false:=by simp;omega
        have q5:decide ((c:Int)<=57)=true:=by simp;omega
        exact zz108
       ·by_cases r11:c<=57
        ·have hc:48<=c/\c<=57:=by omega
         have q0:decide ((97:Int)<=(c:Int))=false:=by simp;omega
         have q1:decide ((c:Int)<=122)=true:=by simp;omega
         have q2:decide ((65:Int)<=(c:Int))=false:=by simp;omega
         have q3:decide ((c:Int)<=90)=true:=by simp;omega
         have q4:decide ((48:Int)<=(c:Int))=true:=by simp;omega
         have q5:decide ((c:Int)<=57)=true:=by simp;omega
         exact zz27
        ·by_cases r12:c<=63
         ·have hc:58<=c/\c<=63:=by omega
          have q0:decide ((97:Int)<=(c:Int))=false:=by simp;omega
          have q1:decide ((c:Int)<=122)=true:=by simp;omega
          have q2:decide ((65:Int)<=(c:Int))=false:=by simp;omega
          have q3:decide ((c:Int)<=90)=true:=by simp;omega
          have q4:decide ((48:Int)<=(c:Int))=true:=by simp;omega
          have q5:decide ((c:Int)<=57)=false:=by simp;omega
          exact zz108
         ·by_cases r13:c<=64
          ·have hc:64<=c/\c<=64:=by omega
           obtain rfl:c=64:=by omega
           have q9:decide ((0:Int)<(pos:Int))=true:=by simp;omega
           have hok:Hid (zM pos 64=true):=zzH (by unfold zM;apply zzT;omega);exact zz30
          ·by_cases r14:c<=90
           ·have hc:65<=c/\c<=90:=by omega
            have q0:decide ((97:Int)<=(c:Int))=false:=by simp;omega
            have q1:decide ((c:Int)<=122)=true:=by simp;omega
            have q2:decide ((65:Int)<=(c:Int))=true:=by simp;omega
            have q3:decide ((c:Int)<=90)=true:=by simp;omega
            have q4:decide ((48:Int)<=(c:Int))=true:=by simp;omega
            have q5:decide ((c:Int)<=57)=false:=by simp;omega
            exact zz27
           ·by_cases r15:c<=94
            ·have hc:91<=c/\c<=94:=by omega
             have q0:decide ((97:Int)<=(c:Int))=false:=by simp;omega
             have q1:decide ((c:Int)<=122)=true:=by simp;omega
             exact zz24
            ·by_cases r16:c<=95
             ·have hc:95<=c/\c<=95:=by omega
              obtain rfl:c=95:=by omega
              have q9:decide ((0:Int)<(pos:Int))=true:=by simp;omega
              have hok:Hid (zM pos 95=true):=zzH (by unfold zM;apply zzT;omega);exact zz30
             ·by_cases r17:c<=96
              ·have hc:96<=c/\c<=96:=by omega
               obtain rfl:c=96:=by omega
               have q9:decide ((0:Int)<(pos:Int))=true:=by simp;omega
               have hok:Hid (zM pos 96=false):=zzH (by unfold zM;apply zzD;omega);have hok2:Hid (zM pos s[pos].toNat=false):=zzH (by rw [<-HR.out.1];exact hok.out);have HV:Hid (zy s=false):=zzH (HB.out hok2.out);clear HG HK HB HR hok hok2;exact zz110
              ·have hc:123<=c:=by omega
               have q0:decide ((97:Int)<=(c:Int))=true:=by simp;omega
               have q1:decide ((c:Int)<=122)=false:=by simp;omega
               exact zz24
    ·have hnx: ∀ty,(Instr.next (.pointer (some ⟨w.heap.size,0,none⟩)) true ty).run Tryz.prog (w.iter s pos)=_:=fun ty=>run_next_end w s pos ty hp
     have HV:Hid (zy s=true):=zzH (zhW (by omega) (by omega) (fun i h=>HG.out i h (by omega)));clear HG;exact zz110
def zI (n:Int):Bool:=decide (n=0)
def zS (s:ByteArray):Bool:=decide (s.size=0)
def zL (l:List Tm):Bool:=decide (l.length=0)
def zf8 (l:List Tm):Int:=match l.getLast? with
 |some t=>t.kind
 |none=>0
def zdK (s:ByteArray):Nat:=(s.data.toList.getLast?.getD 0).toNat
def zcN (y:ByteArray) (z:Int):Bool:=(wi z 0 16384&&decide ((y.size:Int)=(z+7)/8))&&(decide (z%8=0)||decide (zdK y%2^(8-z%8).toNat=0))
def zgb (t:Tm):Bool:=zcN t.bytes t.bits
def okK (t:Tm):Bool:=
 if t.kind=1 then true
 else if t.kind=2 then zy t.name
 else if t.kind=3\/t.kind=6 then wi t.int 1 2147483647&&wi t.gen 1 2147483647&&zy t.name
 else if t.kind=4 then wi t.int 0 999&&wi t.gen 1 2147483647&&zy t.name&&wi t.arity 0 16&&decide (t.items.length<=200)
 else if t.kind=5 then zy t.name&&zy t.func&&wi t.arity 0 16
 else if t.kind=7 then decide (t.items.length<=255)
 else if t.kind=8 then true
 else if t.kind=9 then decide (2<=t.items.length)&&decide (zf8 t.items≠9)
 else if t.kind=10 then zgb t
 else false
def zf9 (t:Tm):Bool:=
 (decide (t.kind=1\/t.kind=3\/t.kind=4\/t.kind=6)||zI t.int) &&
 (decide (t.kind=3\/t.kind=4\/t.kind=6)||zI t.gen) &&
 (decide (t.kind=2\/t.kind=3\/t.kind=4\/t.kind=5\/t.kind=6)||zS t.name) &&
 (decide (t.kind=5)||zS t.func) &&
 (decide (t.kind=4\/t.kind=5)||zI t.arity) &&
 (decide (t.kind=4\/t.kind=7\/t.kind=9)||zL t.items) &&
 (decide (t.kind=10)||zS t.bytes) &&
 (decide (t.kind=10)||zI t.bits)
def zcc (t:Tm):Bool:=okK t&&zf9 t
def zr:Nat->Tm->Bool
 |0,_=>false
 |f+1,t=>zcc t&&t.items.all (zr f)
def zcm (t:Tm):Int:=if t.kind=9 then(t.items.length:Int)-1 else if t.kind=10 then 1+(t.bits+63)/64 else 1
def zbA:List Int->Int
 |[]=>0
 |x::l=>x+zbA l
def zD:Nat->Tm->Int
 |0,_=>0
 |f+1,t=>zcm t+zbA (t.items.map (zD f))
def zbc (f:Nat) (t:Tm):Bool:=zr f t&&decide (zD f t<=2000)
theorem zbS (n a b:Int) (w:World):
  Calls Tryz.prog 204 #[.int .i64 n,.int .i64 a,.int .i64 b] w fun e w'=>e= .returned (.bool (wi n a b))/\w=w':=by
 by_cases h1:a<=n
 ·exact zz13
 ·exact zz14
def zY:Array Value:=#[.int .i64 0,.int .i64 0,.int .i64 0,.string ⟨#[]⟩,.string ⟨#[]⟩,.int .i64 0,.slice none 0 0,.string ⟨#[]⟩,.int .i64 0]
theorem zdk (w:World) (o p:Obj):((w.alloc o).alloc p).heap[w.heap.size]?=some o:=by
 rw [Below.heap_alloc (w.alloc o) p w.heap.size (by simp)];exact zzF _ _
theorem zcL (w:World) (o p:Obj):((w.alloc o).alloc p).heap[w.heap.size+1]?=some p:=by
 have:=zzF (w.alloc o) p
 rwa [show(w.alloc o).heap.size=w.heap.size+1 by simp]at this
theorem zx (w:World) (o p:Obj):Below w.heap.size w ((w.alloc o).alloc p):=(zzE _ _).alloc (by simp) _
theorem zf {w:World} {B:Nat} {v0 v1 v2 v3 v4 v5 v6 v7 v8:Value} (h:w.heap[B]?=some (.cells #[v0,v1,v2,v3,v4,v5,v6,v7,v8] 116 (0,0))):
  w.cell? ⟨B,0,none⟩=some v0/\w.cell? ⟨B,1,none⟩=some v1/\w.cell? ⟨B,2,none⟩=some v2/\w.cell? ⟨B,3,none⟩=some v3/\w.cell? ⟨B,4,none⟩=some v4/\w.cell? ⟨B,5,none⟩=some v5/\w.cell? ⟨B,6,none⟩=some v6/\w.cell? ⟨B,7,none⟩=some v7/\w.cell? ⟨B,8,none⟩=some v8 /\
   (w.frozen? ⟨B,0,none⟩=false/\w.frozen? ⟨B,1,none⟩=false/\w.frozen? ⟨B,2,none⟩=false/\w.frozen? ⟨B,3,none⟩=false/\w.frozen? ⟨B,4,none⟩=false/\w.frozen? ⟨B,5,none⟩=false/\w.frozen? ⟨B,6,none⟩=false/\w.frozen? ⟨B,7,none⟩=false/\w.frozen? ⟨B,8,none⟩=false):=by
 have hc:=fun j=>zzq0 w B j _ _ _ h
 have hf:=fun j=>zzq2 w B j _ _ h
 exact⟨hc 0,hc 1,hc 2,hc 3,hc 4,hc 5,hc 6,hc 7,hc 8,hf 0,hf 1,hf 2,hf 3,hf 4,hf 5,hf 6,hf 7,hf 8⟩
theorem zdI {w:World} {B:Nat} (v0 v1 v2 v3 v4 v5 v6 v7 v8:Value) (h:w.heap[B]?=some (.cells zY 116 (0,0))):
  (((((((((w.setCell ⟨B,0,none⟩ v0).setCell ⟨B,1,none⟩ v1).setCell ⟨B,2,none⟩ v2).setCell ⟨B,3,none⟩ v3).setCell ⟨B,4,none⟩ v4).setCell ⟨B,5,none⟩ v5).setCell ⟨B,6,none⟩ v6).setCell ⟨B,7,none⟩ v7).setCell ⟨B,8,none⟩ v8).heap[B]?=some (.cells #[v0,v1,v2,v3,v4,v5,v6,v7,v8] 116 (0,0)):=by
 have h0:(w.setCell ⟨B,0,none⟩ v0).heap[B]?=some (.cells #[v0,.int .i64 0,.int .i64 0,.string ⟨#[]⟩,.string ⟨#[]⟩,.int .i64 0,.slice none 0 0,.string ⟨#[]⟩,.int .i64 0] 116 (0,0)):=zzS _ _ 0 _ _ v0 h
 have h1:((w.setCell ⟨B,0,none⟩ v0).setCell ⟨B,1,none⟩ v1).heap[B]?=some (.cells #[v0,v1,.int .i64 0,.string ⟨#[]⟩,.string ⟨#[]⟩,.int .i64 0,.slice none 0 0,.string ⟨#[]⟩,.int .i64 0] 116 (0,0)):=zzS _ _ 1 _ _ v1 h0
 have h2:(((w.setCell ⟨B,0,none⟩ v0).setCell ⟨B,1,none⟩ v1).setCell ⟨B,2,none⟩ v2).heap[B]?=some (.cells #[v0,v1,v2,.string ⟨#[]⟩,.string ⟨#[]⟩,.int .i64 0,.slice none 0 0,.string ⟨#[]⟩,.int .i64 0] 116 (0,0)):=zzS _ _ 2 _ _ v2 h1
 have h3:((((w.setCell ⟨B,0,none⟩ v0).setCell ⟨B,1,none⟩ v1).setCell ⟨B,2,none⟩ v2).setCell ⟨B,3,none⟩ v3).heap[B]?=some (.cells #[v0,v1,v2,v3,.string ⟨#[]⟩,.int .i64 0,.slice none 0 0,.string ⟨#[]⟩,.int .i64 0] 116 (0,0)):=zzS _ _ 3 _ _ v3 h2
 have h4:(((((w.setCell ⟨B,0,none⟩ v0).setCell ⟨B,1,none⟩ v1).setCell ⟨B,2,none⟩ v2).setCell ⟨B,3,none⟩ v3).setCell ⟨B,4,none⟩ v4).heap[B]?=some (.cells #[v0,v1,v2,v3,v4,.int .i64 0,.slice none 0 0,.string ⟨#[]⟩,.int .i64 0] 116 (0,0)):=zzS _ _ 4 _ _ v4 h3
 have h5:((((((w.setCell ⟨B,0,none⟩ v0).setCell ⟨B,1,none⟩ v1).setCell ⟨B,2,none⟩ v2).setCell ⟨B,3,none⟩ v3).setCell ⟨B,4,none⟩ v4).setCell ⟨B,5,none⟩ v5).heap[B]?=some (.cells #[v0,v1,v2,v3,v4,v5,.slice none 0 0,.string ⟨#[]⟩,.int .i64 0] 116 (0,0)):=zzS _ _ 5 _ _ v5 h4
 have h6:(((((((w.setCell ⟨B,0,none⟩ v0).setCell ⟨B,1,none⟩ v1).setCell ⟨B,2,none⟩ v2).setCell ⟨B,3,none⟩ v3).setCell ⟨B,4,none⟩ v4).setCell ⟨B,5,none⟩ v5).setCell ⟨B,6,none⟩ v6).heap[B]?=some (.cells #[v0,v1,v2,v3,v4,v5,v6,.string ⟨#[]⟩,.int .i64 0] 116 (0,0)):=zzS _ _ 6 _ _ v6 h5
 have h7:((((((((w.setCell ⟨B,0,none⟩ v0).setCell ⟨B,1,none⟩ v1).setCell ⟨B,2,none⟩ v2).setCell ⟨B,3,none⟩ v3).setCell ⟨B,4,none⟩ v4).setCell ⟨B,5,none⟩ v5).setCell ⟨B,6,none⟩ v6).setCell ⟨B,7,none⟩ v7).heap[B]?=some (.cells #[v0,v1,v2,v3,v4,v5,v6,v7,.int .i64 0] 116 (0,0)):=zzS _ _ 7 _ _ v7 h6
 have h8:(((((((((w.setCell ⟨B,0,none⟩ v0).setCell ⟨B,1,none⟩ v1).setCell ⟨B,2,none⟩ v2).setCell ⟨B,3,none⟩ v3).setCell ⟨B,4,none⟩ v4).setCell ⟨B,5,none⟩ v5).setCell ⟨B,6,none⟩ v6).setCell ⟨B,7,none⟩ v7).setCell ⟨B,8,none⟩ v8).heap[B]?=some (.cells #[v0,v1,v2,v3,v4,v5,v6,v7,v8] 116 (0,0)):=zzS _ _ 8 _ _ v8 h7
 exact h8
theorem zcC {w0 w:World} {B C:Nat} (hBC:B<=C) (h:Below B w0 w) (v0 v1 v2 v3 v4 v5 v6 v7 v8:Value):
  Below B w0 (((((((((w.setCell ⟨C,0,none⟩ v0).setCell ⟨C,1,none⟩ v1).setCell ⟨C,2,none⟩ v2).setCell ⟨C,3,none⟩ v3).setCell ⟨C,4,none⟩ v4).setCell ⟨C,5,none⟩ v5).setCell ⟨C,6,none⟩ v6).setCell ⟨C,7,none⟩ v7).setCell ⟨C,8,none⟩ v8):=
 ((((((((h.setCell hBC _).setCell hBC _).setCell hBC _).setCell hBC _).setCell hBC _).setCell hBC _).setCell hBC _).setCell hBC _).setCell hBC _
section
variable (k i g:Int) (n f:ByteArray) (a:Int) (so:Option Addr) (l c:Nat) (y:ByteArray) (z:Int) (w:World)
theorem zjx:Calls Tryz.prog 205 #[.agg #[.int .i64 k,.int .i64 i,.int .i64 g,.string n,.string f,.int .i64 a,.slice so l c,.string y,.int .i64 z]] w fun e w'=>
  e= .returned (.tuple #[.agg #[.int .i64 k,.int .i64 i,.int .i64 g,.string n,.string f,.int .i64 a,.slice so l c,.string y,.int .i64 z],.bool (false)])/\Below w.heap.size w w':=by
 go_in;go_wp2_with fail;exact zzj (v:=.tuple #[.agg #[.int .i64 k,.int .i64 i,.int .i64 g,.string n,.string f,.int .i64 a,.slice so l c,.string y,.int .i64 z],.bool (false)]) (by simp [results,Tryz.results205,go_sem]) rfl ⟨rfl,zx _ _ _⟩
theorem zj2:Calls Tryz.prog 206 #[.agg #[.int .i64 k,.int .i64 i,.int .i64 g,.string n,.string f,.int .i64 a,.slice so l c,.string y,.int .i64 z]] w fun e w'=>
  e= .returned (.tuple #[.agg #[.int .i64 k,.int .i64 0,.int .i64 g,.string n,.string f,.int .i64 a,.slice so l c,.string y,.int .i64 z],.bool (true)])/\Below w.heap.size w w':=by
 go_in;go_wp2_with fail;exact zzj (v:=.tuple #[.agg #[.int .i64 k,.int .i64 0,.int .i64 g,.string n,.string f,.int .i64 a,.slice so l c,.string y,.int .i64 z],.bool (true)]) (by simp [results,Tryz.results206,go_sem]) rfl ⟨rfl,zx _ _ _⟩
theorem zj6:Calls Tryz.prog 211 #[.agg #[.int .i64 k,.int .i64 i,.int .i64 g,.string n,.string f,.int .i64 a,.slice so l c,.string y,.int .i64 z]] w fun e w'=>
  e= .returned (.tuple #[.agg #[.int .i64 k,.int .i64 i,.int .i64 g,.string n,.string f,.int .i64 a,.slice so l c,.string y,.int .i64 z],.bool (true)])/\Below w.heap.size w w':=by
 go_in;go_wp2_with fail;exact zzj (v:=.tuple #[.agg #[.int .i64 k,.int .i64 i,.int .i64 g,.string n,.string f,.int .i64 a,.slice so l c,.string y,.int .i64 z],.bool (true)]) (by simp [results,Tryz.results211,go_sem]) rfl ⟨rfl,zx _ _ _⟩
theorem zjV:Calls Tryz.prog 203 #[.agg #[.int .i64 k,.int .i64 i,.int .i64 g,.string n,.string f,.int .i64 a,.slice so l c,.string y,.int .i64 z]] w fun e w'=>
  e= .returned (.tuple #[.agg #[.int .i64 k,.int .i64 0,.int .i64 0,.string ⟨#[]⟩,.string f,.int .i64 a,.slice so l c,.string y,.int .i64 z],.bool (wi i 1 2147483647&&wi g 1 2147483647&&zy n)])/\Below w.heap.size w w':=by
 have h0:=fun wx=>zbS i 1 2147483647 wx
 have h1:=fun wx=>zbS g 1 2147483647 wx
 have h2:=fun wx=>zcb n wx
 generalize wi i 1 2147483647=b0 at *;generalize wi g 1 2147483647=b1 at *;generalize zy n=b2 at *
 cases b0 with
 |false=>
  exact zz31
 |true=>
  cases b1 with
  |false=>
   exact zz31
  |true=>
   go_in;go_wp2_with (go_at_call 204;first|((with_reducible refine(h0 _).mono ?_);rintro e w1 ⟨rfl,rfl⟩)|((with_reducible refine(h1 _).mono ?_);rintro e w1 ⟨rfl,rfl⟩));refine(h2 _).mono ?_;rintro e w7 ⟨rfl,hb5⟩;have r0:w7.heap[w.heap.size]?=some (.cells #[.int .i64 k,.int .i64 i,.int .i64 g,.string n,.string f,.int .i64 a,.slice so l c,.string y,.int .i64 z] 116 (0,0)):=(hb5.block _ (by simp;omega)).trans (zdk _ _ _)
   have r1:w7.heap[w.heap.size+1]?=some (.cells zY 116 (0,0)):=(hb5.block _ (by simp)).trans (zcL _ _ _)
   have hB:Below w.heap.size w w7:=(zx _ _ _).trans (hb5.mono (by simp;omega));clear hb5;generalize hBe:w.heap.size=B at *;have HBE:=zzH hBe;clear hBe;obtain⟨q0,q1,q2,q3,q4,q5,q6,q7,q8,z0⟩:=zf r0;go_upto_region 3 with(go_at_call 204;first|((with_reducible refine(h0 _).mono ?_);rintro e w1 ⟨rfl,rfl⟩)|((with_reducible refine(h1 _).mono ?_);rintro e w1 ⟨rfl,rfl⟩));have r0':(((w7.setCell ⟨B,1,none⟩ (.int .i64 0)).setCell ⟨B,2,none⟩ (.int .i64 0)).setCell ⟨B,3,none⟩ (.string ⟨#[]⟩)).heap[B]?=some (.cells #[.int .i64 k,.int .i64 0,.int .i64 0,.string ⟨#[]⟩,.string f,.int .i64 a,.slice so l c,.string y,.int .i64 z] 116 (0,0)):=(zzS _ _ 3 _ _ (.string ⟨#[]⟩) (zzS _ _ 2 _ _ (.int .i64 0) (zzS _ _ 1 _ _ (.int .i64 0) r0)))
   have r1':(((w7.setCell ⟨B,1,none⟩ (.int .i64 0)).setCell ⟨B,2,none⟩ (.int .i64 0)).setCell ⟨B,3,none⟩ (.string ⟨#[]⟩)).heap[B+1]?=some (.cells zY 116 (0,0)):=((zzq3 _ _ _ _ (by simp)).trans ((zzq3 _ _ _ _ (by simp)).trans ((zzq3 _ _ _ _ (by simp)).trans r1)))
   have hB':Below B w (((w7.setCell ⟨B,1,none⟩ (.int .i64 0)).setCell ⟨B,2,none⟩ (.int .i64 0)).setCell ⟨B,3,none⟩ (.string ⟨#[]⟩)):=(((hB.setCell (zzL _) _).setCell (zzL _) _).setCell (zzL _) _);clear q0 q1 q2 q3 q4 q5 q6 q7 q8 z0 r0 r1 hB;generalize(((w7.setCell ⟨B,1,none⟩ (.int .i64 0)).setCell ⟨B,2,none⟩ (.int .i64 0)).setCell ⟨B,3,none⟩ (.string ⟨#[]⟩))=w9 at *;exact zz32
theorem zi5:Calls Tryz.prog 207 #[.agg #[.int .i64 k,.int .i64 i,.int .i64 g,.string n,.string f,.int .i64 a,.slice so l c,.string y,.int .i64 z]] w fun e w'=>
  e= .returned (.tuple #[.agg #[.int .i64 k,.int .i64 i,.int .i64 g,.string ⟨#[]⟩,.string f,.int .i64 a,.slice so l c,.string y,.int .i64 z],.bool (zy n)])/\Below w.heap.size w w':=by
 have h0:=fun wx=>zcb n wx
 generalize zy n=b0 at *;go_in;go_wp2_with fail;refine(h0 _).mono ?_;rintro e w5 ⟨rfl,hb5⟩;have r0:w5.heap[w.heap.size]?=some (.cells #[.int .i64 k,.int .i64 i,.int .i64 g,.string n,.string f,.int .i64 a,.slice so l c,.string y,.int .i64 z] 116 (0,0)):=(hb5.block _ (by simp;omega)).trans (zdk _ _ _)
 have r1:w5.heap[w.heap.size+1]?=some (.cells zY 116 (0,0)):=(hb5.block _ (by simp)).trans (zcL _ _ _)
 have hB:Below w.heap.size w w5:=(zx _ _ _).trans (hb5.mono (by simp;omega));clear hb5;generalize hBe:w.heap.size=B at *;have HBE:=zzH hBe;clear hBe;obtain⟨q0,q1,q2,q3,q4,q5,q6,q7,q8,z0⟩:=zf r0;go_upto_region 3 with fail;have r0':(w5.setCell ⟨B,3,none⟩ (.string ⟨#[]⟩)).heap[B]?=some (.cells #[.int .i64 k,.int .i64 i,.int .i64 g,.string ⟨#[]⟩,.string f,.int .i64 a,.slice so l c,.string y,.int .i64 z] 116 (0,0)):=(zzS _ _ 3 _ _ (.string ⟨#[]⟩) r0)
 have r1':(w5.setCell ⟨B,3,none⟩ (.string ⟨#[]⟩)).heap[B+1]?=some (.cells zY 116 (0,0)):=((zzq3 _ _ _ _ (by simp)).trans r1)
 have hB':Below B w (w5.setCell ⟨B,3,none⟩ (.string ⟨#[]⟩)):=(hB.setCell (zzL _) _);clear q0 q1 q2 q3 q4 q5 q6 q7 q8 z0 r0 r1 hB;generalize(w5.setCell ⟨B,3,none⟩ (.string ⟨#[]⟩))=w9 at *;obtain⟨q0,q1,q2,q3,q4,q5,q6,q7,q8,z0⟩:=zf r0';obtain⟨p0,p1,p2,p3,p4,p5,p6,p7,p8,z1⟩:=zf r1';go_wp2_with fail;refine zzj (zbj rfl _ _ _ (B+1) _ _ _ _ rfl (zdI _ _ _ _ _ _ _ _ _ r1') Tryz.underlying116 (by kernel_rfl)) rfl ?_;exact⟨rfl,by rw [HBE.out];exact zcC (Nat.le_succ _) hB' _ _ _ _ _ _ _ _ _⟩
theorem zhr:Calls Tryz.prog 209 #[.agg #[.int .i64 k,.int .i64 i,.int .i64 g,.string n,.string f,.int .i64 a,.slice so l c,.string y,.int .i64 z]] w fun e w'=>
  e= .returned (.tuple #[.agg #[.int .i64 k,.int .i64 i,.int .i64 g,.string ⟨#[]⟩,.string ⟨#[]⟩,.int .i64 0,.slice so l c,.string y,.int .i64 z],.bool (zy n&&zy f&&wi a 0 16)])/\Below w.heap.size w w':=by
 have h0:=fun wx=>zcb n wx
 have h1:=fun wx=>zcb f wx
 have h2:=fun wx=>zbS a 0 16 wx
 generalize zy n=b0 at *;generalize zy f=b1 at *;generalize wi a 0 16=b2 at *;go_in;go_wp2_with (go_at_call 204;first|((with_reducible refine(h2 _).mono ?_);rintro e w1 ⟨rfl,rfl⟩));refine(h0 _).mono ?_;rintro e w5 ⟨rfl,hb5⟩;have r0:w5.heap[w.heap.size]?=some (.cells #[.int .i64 k,.int .i64 i,.int .i64 g,.string n,.string f,.int .i64 a,.slice so l c,.string y,.int .i64 z] 116 (0,0)):=(hb5.block _ (by simp;omega)).trans (zdk _ _ _)
 have r1:w5.heap[w.heap.size+1]?=some (.cells zY 116 (0,0)):=(hb5.block _ (by simp)).trans (zcL _ _ _)
 have hB:Below w.heap.size w w5:=(zx _ _ _).trans (hb5.mono (by simp;omega));clear hb5;generalize hBe:w.heap.size=B at *;have HBE:=zzH hBe;clear hBe;obtain⟨q0,q1,q2,q3,q4,q5,q6,q7,q8,z0⟩:=zf r0
 cases b0 with
 |false=>
  go_upto_region 3 with(go_at_call 204;first|((with_reducible refine(h2 _).mono ?_);rintro e w1 ⟨rfl,rfl⟩));have r0':(((w5.setCell ⟨B,3,none⟩ (.string ⟨#[]⟩)).setCell ⟨B,4,none⟩ (.string ⟨#[]⟩)).setCell ⟨B,5,none⟩ (.int .i64 0)).heap[B]?=some (.cells #[.int .i64 k,.int .i64 i,.int .i64 g,.string ⟨#[]⟩,.string ⟨#[]⟩,.int .i64 0,.slice so l c,.string y,.int .i64 z] 116 (0,0)):=(zzS _ _ 5 _ _ (.int .i64 0) (zzS _ _ 4 _ _ (.string ⟨#[]⟩) (zzS _ _ 3 _ _ (.string ⟨#[]⟩) r0)))
  have r1':(((w5.setCell ⟨B,3,none⟩ (.string ⟨#[]⟩)).setCell ⟨B,4,none⟩ (.string ⟨#[]⟩)).setCell ⟨B,5,none⟩ (.int .i64 0)).heap[B+1]?=some (.cells zY 116 (0,0)):=((zzq3 _ _ _ _ (by simp)).trans ((zzq3 _ _ _ _ (by simp)).trans ((zzq3 _ _ _ _ (by simp)).trans r1)))
  have hB':Below B w (((w5.setCell ⟨B,3,none⟩ (.string ⟨#[]⟩)).setCell ⟨B,4,none⟩ (.string ⟨#[]⟩)).setCell ⟨B,5,none⟩ (.int .i64 0)):=(((hB.setCell (zzL _) _).setCell (zzL _) _).setCell (zzL _) _);clear q0 q1 q2 q3 q4 q5 q6 q7 q8 z0 r0 r1 hB;generalize(((w5.setCell ⟨B,3,none⟩ (.string ⟨#[]⟩)).setCell ⟨B,4,none⟩ (.string ⟨#[]⟩)).setCell ⟨B,5,none⟩ (.int .i64 0))=w9 at *;exact zz32
 |true=>
  go_wp2_with (go_at_call 204;first|((with_reducible refine(h2 _).mono ?_);rintro e w1 ⟨rfl,rfl⟩));refine(h1 _).mono ?_;rintro e w6 ⟨rfl,hb5⟩;have r0n:=(hb5.block B (zb r0)).trans r0;have r1n:=(hb5.block (B+1) (zb r1)).trans r1;have hBn:Below B w w6:=hB.trans (hb5.mono (zzb (zb r0)));clear hb5 r0 r1 hB q0 q1 q2 q3 q4 q5 q6 q7 q8 z0;have r0:=r0n;have r1:=r1n;have hB:=hBn;clear r0n r1n hBn;obtain⟨q0,q1,q2,q3,q4,q5,q6,q7,q8,z0⟩:=zf r0
  cases b1 with
  |false=>
   exact zz33
  |true=>
   cases b2 with
   |false=>
    exact zz33
   |true=>
    exact zz33
theorem zhO:Calls Tryz.prog 210 #[.agg #[.int .i64 k,.int .i64 i,.int .i64 g,.string n,.string f,.int .i64 a,.slice so l c,.string y,.int .i64 z]] w fun e w'=>
  e= .returned (.tuple #[.agg #[.int .i64 k,.int .i64 i,.int .i64 g,.string n,.string f,.int .i64 a,.slice none 0 0,.string y,.int .i64 z],.bool (decide ((l:Int)<=255))])/\Below w.heap.size w w':=by
 cases hp:decide ((l:Int)<=255)with
 |false=>
  go_in;go_wp2_with fail;exact zzj (v:=.tuple #[.agg #[.int .i64 k,.int .i64 i,.int .i64 g,.string n,.string f,.int .i64 a,.slice none 0 0,.string y,.int .i64 z],.bool (false)]) (by simp [results,Tryz.results210,go_sem]) rfl ⟨rfl,zx _ _ _⟩
 |true=>
  go_in;go_wp2_with fail;exact zzj (v:=.tuple #[.agg #[.int .i64 k,.int .i64 i,.int .i64 g,.string n,.string f,.int .i64 a,.slice none 0 0,.string y,.int .i64 z],.bool (true)]) (by simp [results,Tryz.results210,go_sem]) rfl ⟨rfl,zx _ _ _⟩
theorem zg2:Calls Tryz.prog 208 #[.agg #[.int .i64 k,.int .i64 i,.int .i64 g,.string n,.string f,.int .i64 a,.slice so l c,.string y,.int .i64 z]] w fun e w'=>
  e= .returned (.tuple #[.agg #[.int .i64 k,.int .i64 0,.int .i64 0,.string ⟨#[]⟩,.string f,.int .i64 0,.slice none 0 0,.string y,.int .i64 z],.bool (wi i 0 999&&wi g 1 2147483647&&zy n&&wi a 0 16&&decide ((l:Int)<=200))])/\Below w.heap.size w w':=by
 have h0:=fun wx=>zbS i 0 999 wx
 have h1:=fun wx=>zbS g 1 2147483647 wx
 have h2:=fun wx=>zcb n wx
 have h3:=fun wx=>zbS a 0 16 wx
 generalize wi i 0 999=b0 at *;generalize wi g 1 2147483647=b1 at *;generalize zy n=b2 at *;generalize wi a 0 16=b3 at *
 cases hp:decide ((l:Int)<=200)with
 |false=>
  exact zz34
 |true=>
  exact zz34
end
def zbw (rec:Tm->Tm->Bool):List Tm->List Tm->Bool
 |[],[]=>true
 |x::l,y::m=>rec x y&&zbw rec l m
 |_,_=>false
def zgc (a b:Tm):Bool:=(a.kind==b.kind)&&((a.int==b.int)&&((a.gen==b.gen)&&((a.name.toList==b.name.toList)&&((a.func.toList==b.func.toList)&&((a.arity==b.arity)&&((a.bytes.toList==b.bytes.toList)&&(a.bits==b.bits)))))))
def zbr:Nat->Tm->Tm->Bool
 |0,_,_=>false
 |f+1,a,b=>zgc a b&&zbw (zbr f) a.items b.items
theorem zfS {rec:Tm->Tm->Bool}: ∀{l m:List Tm},l.length≠m.length->zbw rec l m=false
 |[],[],h=>absurd rfl h
 |_::l,_::m,h=>by
  unfold zbw;rw [zfS (l:=l) (m:=m) (by simpa using h)];exact Bool.and_false _
 |[],_::_,_=>rfl
 |_::_,[],_=>rfl
theorem zis {rec:Tm->Tm->Bool} {l m:List Tm} {k:Nat} (h:k<l.length) (h':k<m.length):zbw rec (l.drop k) (m.drop k)=(rec l[k] m[k]&&zbw rec (l.drop (k+1)) (m.drop (k+1))):=by
 rw [List.drop_eq_getElem_cons h,List.drop_eq_getElem_cons h',zbw]
theorem zjp {rec:Tm->Tm->Bool} {l m:List Tm} {k:Nat} (h:l.length<=k) (h':m.length<=k):zbw rec (l.drop k) (m.drop k)=true:=by
 rw [zzq10 h,zzq10 h',zbw]
def ze6 (f:Nat):Prop:= ∀(ao bo:Option Addr) (c d:Nat) (l m:List Tm) (w:World),SlAt w 9 (TmAt w f) ao l->SlAt w 9 (TmAt w f) bo m->l.length<=maxLen->m.length<=maxLen ->
 Calls Tryz.prog 232 #[.slice ao l.length c,.slice bo m.length d,.func (.func 214) #[] #[]] w fun e w'=>e= .returned (.bool (zbw (zbr f) l m))/\Below w.heap.size w w'
def zhX (f:Nat):Prop:= ∀(a b:Tm) (ao bo:Option Addr) (c d:Nat) (w:World),SlAt w 9 (TmAt w f) ao a.items->SlAt w 9 (TmAt w f) bo b.items->a.items.length<=maxLen->b.items.length<=maxLen ->
 Calls Tryz.prog 214 #[.agg #[.int .i64 a.kind,.int .i64 a.int,.int .i64 a.gen,.string a.name,.string a.func,.int .i64 a.arity,.slice ao a.items.length c,.string a.bytes,.int .i64 a.bits],
   .agg #[.int .i64 b.kind,.int .i64 b.int,.int .i64 b.gen,.string b.name,.string b.func,.int .i64 b.arity,.slice bo b.items.length d,.string b.bytes,.int .i64 b.bits]] w fun e w'=>e= .returned (.bool (zbr (f+1) a b))/\Below w.heap.size w w'
theorem zhy {f:Nat} (HP:Hid (ze6 f)):zhX f:=by
 intro a b ao bo c d w ha hb hla hlb
 have hA: ∀wx,Below w.heap.size w wx->Calls Tryz.prog 232 #[.slice ao a.items.length c,.slice bo b.items.length d,.func (.func 214) #[] #[]] wx fun e w'=>e= .returned (.bool (zbw (zbr f) a.items b.items))/\Below w.heap.size w w':=
  fun wx hx=>(HP.out ao bo c d a.items b.items wx (ha.tms hx) (hb.tms hx) hla hlb).mono fun _ _ ⟨h1,h2⟩=>⟨h1,zd hx h2⟩
 have E0:Hid (zbr (f+1) a b=(zgc a b&&zbw (zbr f) a.items b.items)):=zzH rfl;unfold zgc at E0;clear ha hb hla hlb;generalize zbw (zbr f) a.items b.items=sl at *;generalize zbr (f+1) a b=r at *;obtain⟨ak,ai,ag,an,af,aa,al,ay,az⟩:=a;obtain⟨bk,bi,bg,bn,bf,ba,bl,by',bz⟩:=b;simp only [Tm.kind,Tm.int,Tm.gen,Tm.name,Tm.func,Tm.arity,Tm.items,Tm.bytes,Tm.bits]at *;have hbe:Below w.heap.size w ((w.alloc (.cells #[.int .i64 ak,.int .i64 ai,.int .i64 ag,.string an,.string af,.int .i64 aa,.slice ao al.length c,.string ay,.int .i64 az] 116)).alloc (.cells #[.int .i64 bk,.int .i64 bi,.int .i64 bg,.string bn,.string bf,.int .i64 ba,.slice bo bl.length d,.string by',.int .i64 bz] 116)):=zx _ _ _;have HA:=hA _ hbe;have HBE:=zzH hbe;clear hA hbe
 cases t0:(ak==bk)with
 |false=>
  simp only [t0]at E0;exact zz35
 |true=>
  simp only [t0]at E0
  cases t1:(ai==bi)with
  |false=>
   simp only [t1]at E0;exact zz35
  |true=>
   simp only [t1]at E0
   cases t2:(ag==bg)with
   |false=>
    simp only [t2]at E0;exact zz35
   |true=>
    simp only [t2]at E0
    cases t3:(an.toList==bn.toList)with
    |false=>
     simp only [t3]at E0;exact zz35
    |true=>
     simp only [t3]at E0
     cases t4:(af.toList==bf.toList)with
     |false=>
      simp only [t4]at E0;exact zz35
     |true=>
      simp only [t4]at E0
      cases t5:(aa==ba)with
      |false=>
       simp only [t5]at E0;exact zz35
      |true=>
       simp only [t5]at E0
       cases t6:(ay.toList==by'.toList)with
       |false=>
        simp only [t6]at E0;exact zz35
       |true=>
        simp only [t6]at E0
        cases t7:(az==bz)with
        |false=>
         simp only [t7]at E0;exact zz35
        |true=>
         simp only [t7]at E0;simp only [zzq11,Bool.false_and,Bool.and_true,Bool.and_false]at E0;go_in;go_wp2_with fail;refine HA.mono ?_;rintro e w5 ⟨rfl,hb5⟩;go_wp2;go_ret;exact⟨zi E0.out.symm,hb5⟩
theorem ziB:ze6 0:=by
 intro ao bo c d l m w ha hb hla hlb;obtain rfl:=ha.zero;obtain rfl:=hb.zero;go_in;go_wp2_with fail;go_loop [16] (fun i=>i= .int .i64 0) (fun _=>0)
 case atStart=>rfl
 case round=>
  obtain rfl:=hrel;go_wp2;go_ret;exact⟨rfl,zzR _ _⟩
theorem zhM {f:Nat} (HQ:Hid (zhX f)):ze6 (f+1):=by
 intro ao bo c d l m w ha hb hla hlb;unfold maxLen at hla hlb;by_cases hlm:l.length=m.length
 ·have HA:=zzH ha;have HB:=zzH hb
  have HLM:=zzH hlm;have hlmb:((l.length:Int)!=(m.length:Int))=false:=by rw [hlm];simp
  have HS:Hid (zbw (zbr (f+1)) l m=zbw (zbr (f+1)) (l.drop 0) (m.drop 0)):=zzH rfl;clear ha hb hlm;go_in;go_wp2_with fail;go_loopw [7,8,16] (fun _ _ i wr=> ∃k:Nat,k<=l.length/\i= .int .i64 k/\Hid (zbw (zbr (f+1)) l m=zbw (zbr (f+1)) (l.drop k) (m.drop k))/\Below w.heap.size w wr) (fun _ _ i _=>l.length-(intOf i).toNat)
  case atStart=>exact⟨0,zzZ _,rfl,HS,zzR _ _⟩
  case round=>
   obtain⟨k,hk,rfl,HK,hBw⟩:=hrel;rename World=>wr
   by_cases hlt:k<l.length
   ·have hlt':k<m.length:=by have:=HLM.out;omega
    have hsa:=HA.out.tms hBw;have hsb:=HB.out.tms hBw;obtain⟨b1,off1,ai,ci,hao,hb1,q0,q1,q2,q3,q4,q5,q6,q7,q8,hit,hok⟩:=hsa.tm hlt;obtain⟨b2,off2,bi,di,hbo,hb2,p0,p1,p2,p3,p4,p5,p6,p7,p8,hit2,hok2⟩:=hsb.tm hlt';subst hao;subst hbo;have HST:=zzH (zis (rec:=zbr (f+1)) hlt hlt');have hbx:Below wr.heap.size wr (wr.alloc (.cells (zzt l[k] ai ci) 116)):=zzE _ _;have hSM:=HQ.out l[k] m[k] ai bi ci di (wr.alloc (.cells (zzt l[k] ai ci) 116)).drew (hit.tms hbx.drew) (hit2.tms hbx.drew) hok.2.2.2.2.2.2.1 hok2.2.2.2.2.2.2.1;have HBX:=zzH (hBw.trans (hbx.mono hBw.size));have hbs:w.heap.size<=(wr.alloc (.cells (zzt l[k] ai ci) 116)).heap.size:=HBX.out.size;have hca:=zzF wr (.cells #[.int .i64 l[k].kind,.int .i64 l[k].int,.int .i64 l[k].gen,.string l[k].name,.string l[k].func,.int .i64 l[k].arity,.slice ai l[k].items.length ci,.string l[k].bytes,.int .i64 l[k].bits] 116);have hb2':b2<(wr.alloc (.cells (zzt l[k] ai ci) 116)).heap.size:=zzW hb2 hbx.size;have p0':=(hbx.cell (p:=⟨b2,off2+k*9,none⟩) hb2).trans p0;have p1':=(hbx.cell (p:=⟨b2,off2+k*9+1,none⟩) hb2).trans p1;have p2':=(hbx.cell (p:=⟨b2,off2+k*9+2,none⟩) hb2).trans p2;have p3':=(hbx.cell (p:=⟨b2,off2+k*9+3,none⟩) hb2).trans p3;have p4':=(hbx.cell (p:=⟨b2,off2+k*9+4,none⟩) hb2).trans p4;have p5':=(hbx.cell (p:=⟨b2,off2+k*9+5,none⟩) hb2).trans p5;have p6':=(hbx.cell (p:=⟨b2,off2+k*9+6,none⟩) hb2).trans p6;have p7':=(hbx.cell (p:=⟨b2,off2+k*9+7,none⟩) hb2).trans p7;have p8':=(hbx.cell (p:=⟨b2,off2+k*9+8,none⟩) hb2).trans p8;clear hit hit2 hok hok2 hsa hsb hbx;generalize l[k]=x at *;generalize m[k]=y at *
    cases hr:zbr (f+1) x y with
    |true=>
     have HK2:Hid (zbw (zbr (f+1)) l m=zbw (zbr (f+1)) (l.drop (k+1)) (m.drop (k+1))):=zzH (by rw [HK.out,HST.out,hr,zzq11]);rw [hr]at hSM;clear hr;have HBS:=zzH hbs;clear hbs;go_wp2_with fail;generalize(wr.alloc (.cells (zzt x ai ci) 116))=wa at *;generalize wr.heap.size=C at *;obtain⟨q0',q1',q2',q3',q4',q5',q6',q7',q8',z1⟩:=zf hca;have hCs:=zb hca;have HCA:=zzH hca;clear hca z1 q0 q1 q2 q3 q4 q5 q6 q7 q8 p0 p1 p2 p3 p4 p5 p6 p7 p8
     first|go_region_held3 (fun w'=>((w'.cell? ⟨C,0,none⟩=some (.int .i64 x.kind)/\w'.cell? ⟨C,1,none⟩=some (.int .i64 x.int)/\w'.cell? ⟨C,2,none⟩=some (.int .i64 x.gen)/\w'.cell? ⟨C,3,none⟩=some (.string x.name)/\w'.cell? ⟨C,4,none⟩=some (.string x.func)/\w'.cell? ⟨C,5,none⟩=some (.int .i64 x.arity)/\w'.cell? ⟨C,6,none⟩=some (.slice ai x.items.length ci)/\w'.cell? ⟨C,7,none⟩=some (.string x.bytes)/\w'.cell? ⟨C,8,none⟩=some (.int .i64 x.bits))/\(w'.cell? ⟨b2,off2+k*9,none⟩=some (.int .i64 y.kind)/\w'.cell? ⟨b2,off2+k*9+1,none⟩=some (.int .i64 y.int)/\w'.cell? ⟨b2,off2+k*9+2,none⟩=some (.int .i64 y.gen)/\w'.cell? ⟨b2,off2+k*9+3,none⟩=some (.string y.name)/\w'.cell? ⟨b2,off2+k*9+4,none⟩=some (.string y.func)/\w'.cell? ⟨b2,off2+k*9+5,none⟩=some (.int .i64 y.arity)/\w'.cell? ⟨b2,off2+k*9+6,none⟩=some (.slice bi y.items.length di)/\w'.cell? ⟨b2,off2+k*9+7,none⟩=some (.string y.bytes)/\w'.cell? ⟨b2,off2+k*9+8,none⟩=some (.int .i64 y.bits)))) (((repeat' apply And.intro)<;>assumption)) ((go_at_call 214;refine hSM.mono ?_;rintro e w5 ⟨rfl,hb5⟩;obtain⟨r0,r1,r2,r3,r4,r5,r6,r7,r8,_⟩:=zf ((hb5.block C hCs).trans HCA.out);have s0:=(hb5.cell (p:=⟨b2,off2+k*9,none⟩) hb2').trans p0';have s1:=(hb5.cell (p:=⟨b2,off2+k*9+1,none⟩) hb2').trans p1';have s2:=(hb5.cell (p:=⟨b2,off2+k*9+2,none⟩) hb2').trans p2';have s3:=(hb5.cell (p:=⟨b2,off2+k*9+3,none⟩) hb2').trans p3';have s4:=(hb5.cell (p:=⟨b2,off2+k*9+4,none⟩) hb2').trans p4';have s5:=(hb5.cell (p:=⟨b2,off2+k*9+5,none⟩) hb2').trans p5';have s6:=(hb5.cell (p:=⟨b2,off2+k*9+6,none⟩) hb2').trans p6';have s7:=(hb5.cell (p:=⟨b2,off2+k*9+7,none⟩) hb2').trans p7';have s8:=(hb5.cell (p:=⟨b2,off2+k*9+8,none⟩) hb2').trans p8'))|fail
     go_wp2_with fail;go_roundw
     case rel=>exact⟨k+1,by omega,by go_num,HK2,HBX.out.drew.trans (hb5.mono HBS.out)⟩
     case measure=>simp [intOf];omega
    |false=>
     have E:Hid (zbw (zbr (f+1)) l m=false):=zzH (by rw [HK.out,HST.out,hr,Bool.false_and]);rw [hr]at hSM;clear hr;have HBS:=zzH hbs;clear hbs;go_wp2_with fail;generalize(wr.alloc (.cells (zzt x ai ci) 116))=wa at *;generalize wr.heap.size=C at *;obtain⟨q0',q1',q2',q3',q4',q5',q6',q7',q8',z1⟩:=zf hca;have hCs:=zb hca;have HCA:=zzH hca;clear hca z1 q0 q1 q2 q3 q4 q5 q6 q7 q8 p0 p1 p2 p3 p4 p5 p6 p7 p8
     first|go_region_held3 (fun w'=>((w'.cell? ⟨C,0,none⟩=some (.int .i64 x.kind)/\w'.cell? ⟨C,1,none⟩=some (.int .i64 x.int)/\w'.cell? ⟨C,2,none⟩=some (.int .i64 x.gen)/\w'.cell? ⟨C,3,none⟩=some (.string x.name)/\w'.cell? ⟨C,4,none⟩=some (.string x.func)/\w'.cell? ⟨C,5,none⟩=some (.int .i64 x.arity)/\w'.cell? ⟨C,6,none⟩=some (.slice ai x.items.length ci)/\w'.cell? ⟨C,7,none⟩=some (.string x.bytes)/\w'.cell? ⟨C,8,none⟩=some (.int .i64 x.bits))/\(w'.cell? ⟨b2,off2+k*9,none⟩=some (.int .i64 y.kind)/\w'.cell? ⟨b2,off2+k*9+1,none⟩=some (.int .i64 y.int)/\w'.cell? ⟨b2,off2+k*9+2,none⟩=some (.int .i64 y.gen)/\w'.cell? ⟨b2,off2+k*9+3,none⟩=some (.string y.name)/\w'.cell? ⟨b2,off2+k*9+4,none⟩=some (.string y.func)/\w'.cell? ⟨b2,off2+k*9+5,none⟩=some (.int .i64 y.arity)/\w'.cell? ⟨b2,off2+k*9+6,none⟩=some (.slice bi y.items.length di)/\w'.cell? ⟨b2,off2+k*9+7,none⟩=some (.string y.bytes)/\w'.cell? ⟨b2,off2+k*9+8,none⟩=some (.int .i64 y.bits)))) (((repeat' apply And.intro)<;>assumption)) ((go_at_call 214;refine hSM.mono ?_;rintro e w5 ⟨rfl,hb5⟩;obtain⟨r0,r1,r2,r3,r4,r5,r6,r7,r8,_⟩:=zf ((hb5.block C hCs).trans HCA.out);have s0:=(hb5.cell (p:=⟨b2,off2+k*9,none⟩) hb2').trans p0';have s1:=(hb5.cell (p:=⟨b2,off2+k*9+1,none⟩) hb2').trans p1';have s2:=(hb5.cell (p:=⟨b2,off2+k*9+2,none⟩) hb2').trans p2';have s3:=(hb5.cell (p:=⟨b2,off2+k*9+3,none⟩) hb2').trans p3';have s4:=(hb5.cell (p:=⟨b2,off2+k*9+4,none⟩) hb2').trans p4';have s5:=(hb5.cell (p:=⟨b2,off2+k*9+5,none⟩) hb2').trans p5';have s6:=(hb5.cell (p:=⟨b2,off2+k*9+6,none⟩) hb2').trans p6';have s7:=(hb5.cell (p:=⟨b2,off2+k*9+7,none⟩) hb2').trans p7';have s8:=(hb5.cell (p:=⟨b2,off2+k*9+8,none⟩) hb2').trans p8'))|fail
     go_wp2;go_ret;exact⟨zi E.out.symm,HBX.out.drew.trans (hb5.mono HBS.out)⟩
   ·have E:Hid (zbw (zbr (f+1)) l m=true):=zzH (by rw [HK.out];exact zjp (by omega) (by have:=HLM.out;omega))
    go_wp2;go_ret;exact⟨zi E.out.symm,hBw⟩
 ·have hlmb:((l.length:Int)!=(m.length:Int))=true:=by rw [bne_iff_ne];omega
  have E:Hid (zbw (zbr (f+1)) l m=false):=zzH (zfS hlm);clear ha hb hlm;go_in;go_wp2;go_ret;exact⟨zi E.out.symm,zzR _ _⟩
theorem zfB: ∀f,ze6 f
 |0=>ziB
 |f+1=>zhM (zzH (zhy (zzH (zfB f))))
theorem zkB (f:Nat):zhX f:=zhy (zzH (zfB f))
def zgT (f:Nat):Prop:= ∀(t:Tm) (ao bo:Option Addr) (c d:Nat) (w:World),SlAt w 9 (TmAt w f) ao t.items->SlAt w 9 (TmAt w f) bo t.items->t.items.length<=maxLen ->
 Calls Tryz.prog 49 #[.agg #[.int .i64 t.kind,.int .i64 t.int,.int .i64 t.gen,.string t.name,.string t.func,.int .i64 t.arity,.slice ao t.items.length c,.string t.bytes,.int .i64 t.bits],
   .agg #[.int .i64 t.kind,.int .i64 t.int,.int .i64 t.gen,.string t.name,.string t.func,.int .i64 t.arity,.slice bo t.items.length d,.string t.bytes,.int .i64 t.bits]] w fun e w'=>e= .returned (.bool true)/\Below w.heap.size w w'
def zep (f:Nat):Prop:= ∀(l:List Tm) (ao bo:Option Addr) (c d:Nat) (w:World),SlAt w 9 (TmAt w f) ao l->SlAt w 9 (TmAt w f) bo l->l.length<=maxLen ->
 Calls Tryz.prog 85 #[.slice ao l.length c,.slice bo l.length d] w fun e w'=>e= .returned (.bool true)/\Below w.heap.size w w'
theorem zgR {f:Nat} (HP:Hid (zep f)):zgT f:=by
 intro t ao bo c d w ha hb hl;have hbe:=zx w (.cells #[.int .i64 t.kind,.int .i64 t.int,.int .i64 t.gen,.string t.name,.string t.func,.int .i64 t.arity,.slice ao t.items.length c,.string t.bytes,.int .i64 t.bits] 116) (.cells #[.int .i64 t.kind,.int .i64 t.int,.int .i64 t.gen,.string t.name,.string t.func,.int .i64 t.arity,.slice bo t.items.length d,.string t.bytes,.int .i64 t.bits] 116);have r0:=zdk w (.cells #[.int .i64 t.kind,.int .i64 t.int,.int .i64 t.gen,.string t.name,.string t.func,.int .i64 t.arity,.slice ao t.items.length c,.string t.bytes,.int .i64 t.bits] 116) (.cells #[.int .i64 t.kind,.int .i64 t.int,.int .i64 t.gen,.string t.name,.string t.func,.int .i64 t.arity,.slice bo t.items.length d,.string t.bytes,.int .i64 t.bits] 116);have r1:=zcL w (.cells #[.int .i64 t.kind,.int .i64 t.int,.int .i64 t.gen,.string t.name,.string t.func,.int .i64 t.arity,.slice ao t.items.length c,.string t.bytes,.int .i64 t.bits] 116) (.cells #[.int .i64 t.kind,.int .i64 t.int,.int .i64 t.gen,.string t.name,.string t.func,.int .i64 t.arity,.slice bo t.items.length d,.string t.bytes,.int .i64 t.bits] 116);have hL:=fun wx (hx:Below w.heap.size w wx)=>HP.out t.items ao bo c d wx (ha.tms hx) (hb.tms hx) hl
 have HL:=zzH hL;clear hL ha hb hl HP;go_in;go_upto_region 1 with fail;generalize World.alloc _ _=w2 at *;have HB:=zzH hbe;obtain⟨q0,q1,q2,q3,q4,q5,q6,q7,q8,z0,z1,z2,z3,z4,z5,z6,z7,z8⟩:=zf r0;obtain⟨x0,x1,x2,x3,x4,x5,x6,x7,x8,y0,y1,y2,y3,y4,y5,y6,y7,y8⟩:=zf r1;clear r0 r1 hbe;go_wp2_with (go_at_call 85;refine(HL.out w2 HB.out).mono ?_;rintro e w3 ⟨rfl,hb3⟩);go_ret;exact⟨rfl,zd HB.out hb3⟩
theorem zhq:zep 0:=by
 intro l ao bo c d w ha hb hl;obtain rfl:=ha.zero;clear ha hb hl;go_in;go_wp2_with fail;go_loop [5] (fun i=>i= .int .i64 0) (fun _=>0)
 case atStart=>rfl
 case round=>
  obtain rfl:=hrel;go_wp2;go_ret;exact⟨rfl,zzR _ _⟩
theorem zhf {f:Nat} (HQ:Hid (zgT f)):zep (f+1):=by
 intro l ao bo c d w ha hb hl;unfold maxLen at hl;have HA:=zzH ha;have HB:=zzH hb;clear ha hb;go_in;go_wp2_with fail;go_loopw [5] (fun iv wr=> ∃k:Nat,k<=l.length/\iv= .int .i64 k/\Below w.heap.size w wr) (fun iv _=>l.length-(intOf iv).toNat)
 case atStart=>exact⟨0,zzZ _,rfl,zzR _ _⟩
 case round=>
  obtain⟨k,hk,rfl,hbr⟩:=hrel;rename World=>wr
  by_cases hlt:k<l.length
  ·obtain⟨b1,off1,ai,ci,hao,hb1,q0,q1,q2,q3,q4,q5,q6,q7,q8,hit,hok⟩:=(HA.out.tms hbr).tm hlt
   obtain⟨b2,off2,bi,di,hbo,hb2,p0,p1,p2,p3,p4,p5,p6,p7,p8,hit2,hok2⟩:=(HB.out.tms hbr).tm hlt;subst hao;subst hbo;have hSM:=HQ.out l[k] ai bi ci di wr.drew (hit.tms (zzR _ _).drew) (hit2.tms (zzR _ _).drew) hok.2.2.2.2.2.2.1;have HBR:=zzH hbr;clear hit hit2 hok hok2 hbr;generalize l[k]=x at *;go_wp2_with fail
   first|go_region_held3 (fun w'=>(w'.cell? ⟨b1,off1+k*9,none⟩=some (.int .i64 x.kind)/\w'.cell? ⟨b1,off1+k*9+1,none⟩=some (.int .i64 x.int)/\w'.cell? ⟨b1,off1+k*9+2,none⟩=some (.int .i64 x.gen)/\w'.cell? ⟨b1,off1+k*9+3,none⟩=some (.string x.name)/\w'.cell? ⟨b1,off1+k*9+4,none⟩=some (.string x.func)/\w'.cell? ⟨b1,off1+k*9+5,none⟩=some (.int .i64 x.arity)/\w'.cell? ⟨b1,off1+k*9+6,none⟩=some (.slice ai x.items.length ci)/\w'.cell? ⟨b1,off1+k*9+7,none⟩=some (.string x.bytes)/\w'.cell? ⟨b1,off1+k*9+8,none⟩=some (.int .i64 x.bits))/\(w'.cell? ⟨b2,off2+k*9,none⟩=some (.int .i64 x.kind)/\w'.cell? ⟨b2,off2+k*9+1,none⟩=some (.int .i64 x.int)/\w'.cell? ⟨b2,off2+k*9+2,none⟩=some (.int .i64 x.gen)/\w'.cell? ⟨b2,off2+k*9+3,none⟩=some (.string x.name)/\w'.cell? ⟨b2,off2+k*9+4,none⟩=some (.string x.func)/\w'.cell? ⟨b2,off2+k*9+5,none⟩=some (.int .i64 x.arity)/\w'.cell? ⟨b2,off2+k*9+6,none⟩=some (.slice bi x.items.length di)/\w'.cell? ⟨b2,off2+k*9+7,none⟩=some (.string x.bytes)/\w'.cell? ⟨b2,off2+k*9+8,none⟩=some (.int .i64 x.bits))) (((repeat' apply And.intro)<;>assumption)) ((go_at_call 49;refine hSM.mono ?_;rintro e w5 ⟨rfl,hb5⟩;have r0:=(hb5.cell (p:=⟨b1,off1+k*9,none⟩) hb1).trans q0;have r1:=(hb5.cell (p:=⟨b1,off1+k*9+1,none⟩) hb1).trans q1;have r2:=(hb5.cell (p:=⟨b1,off1+k*9+2,none⟩) hb1).trans q2;have r3:=(hb5.cell (p:=⟨b1,off1+k*9+3,none⟩) hb1).trans q3;have r4:=(hb5.cell (p:=⟨b1,off1+k*9+4,none⟩) hb1).trans q4;have r5:=(hb5.cell (p:=⟨b1,off1+k*9+5,none⟩) hb1).trans q5;have r6:=(hb5.cell (p:=⟨b1,off1+k*9+6,none⟩) hb1).trans q6;have r7:=(hb5.cell (p:=⟨b1,off1+k*9+7,none⟩) hb1).trans q7;have r8:=(hb5.cell (p:=⟨b1,off1+k*9+8,none⟩) hb1).trans q8;have s0:=(hb5.cell (p:=⟨b2,off2+k*9,none⟩) hb2).trans p0;have s1:=(hb5.cell (p:=⟨b2,off2+k*9+1,none⟩) hb2).trans p1;have s2:=(hb5.cell (p:=⟨b2,off2+k*9+2,none⟩) hb2).trans p2;have s3:=(hb5.cell (p:=⟨b2,off2+k*9+3,none⟩) hb2).trans p3;have s4:=(hb5.cell (p:=⟨b2,off2+k*9+4,none⟩) hb2).trans p4;have s5:=(hb5.cell (p:=⟨b2,off2+k*9+5,none⟩) hb2).trans p5;have s6:=(hb5.cell (p:=⟨b2,off2+k*9+6,none⟩) hb2).trans p6;have s7:=(hb5.cell (p:=⟨b2,off2+k*9+7,none⟩) hb2).trans p7;have s8:=(hb5.cell (p:=⟨b2,off2+k*9+8,none⟩) hb2).trans p8))|fail
   exact zz36
  ·go_wp2_with fail
   go_ret;exact⟨rfl,hbr⟩
theorem zfd: ∀f,zep f
 |0=>zhq
 |f+1=>zhf (zzH (zgR (zzH (zfd f))))
theorem zje (f:Nat):zgT f:=zgR (zzH (zfd f))
theorem zgI: ∀(f:Nat) (ao:zzA) (c:Nat) (l:List Tm) (m:Int) (w:World),SlAt w 9 (TmAt w f) ao l->l.length<=maxLen-> -1<=m->m<=1000000 ->
  Calls Tryz.prog 52 #[.slice ao l.length c,.int .i64 m] w fun e w'=>e= .returned (.int .i64 (zbd f l m))/\Below w.heap.size w w'
 |0,ao,c,l,m,w,h,hl,h0,h1=>by
  obtain rfl:=h.zero;have HE:Hid (zbd 0 [] m=m):=zzH rfl;go_in;go_wp2_with fail;go_loop [1,5] (fun mv i=>mv= .int .i64 m/\i= .int .i64 0) (fun _ _=>0)
  case atStart=>exact⟨rfl,rfl⟩
  case round=>
   obtain⟨rfl,rfl⟩:=hrel;go_wp2;go_ret;exact⟨zcp HE.out.symm,zzR _ _⟩
 |f+1,ao,c,l,m,w,h,hl,h0,h1=>by
  have IH:=zzH (zgI f);have HS:=zzH h;have HV:Hid (zbd (f+1) l m=zbO (zbd f) l m):=zzH rfl;have HM:=zzH (zdj f);clear h;unfold maxLen at hl;go_in;go_wp2_with fail;go_loopw [1,5] (fun mv i wr=> ∃(k:Nat) (m':Int),k<=l.length/\i= .int .i64 k/\mv= .int .i64 m'/\ -1<=m'/\m'<=1000000/\Hid (zbO (zbd f) l m=zbO (zbd f) (l.drop k) m')/\Below w.heap.size w wr) (fun _ i _=>l.length-(intOf i).toNat)
  case atStart=>exact⟨0,m,zzZ _,rfl,rfl,h0,h1,zzH rfl,zzR _ _⟩
  case round=>
   obtain⟨k,m',hk,rfl,rfl,g0,g1,HG,hB⟩:=hrel;rename World=>wr
   by_cases hlt:k<l.length
   ·by_cases hm:0<=m'
    ·have hs2:=HS.out.tms hB
     obtain⟨b,off,ai,ci,hao,hb,q0,q1,q2,q3,q4,q5,q6,q7,q8,hit,hok⟩:=hs2.tm hlt;subst hao;have hlong:=zh4 (rec:=zbd f) hlt hm;have hnext:=zhR (rec:=zbd f) hlt hm;have HL1:=zzH hlong;have HL2:=zzH hnext;clear hlong hnext hs2;obtain⟨_,_,_,o3,o4,_,o6,o7,_⟩:=hok;unfold maxLen at o3 o4 o6 o7;generalize l[k]=t at *;have HIT:=zzH hit;clear hit;by_cases c1:m'<t.name.size
     ·have E:Hid (zbd (f+1) l m= -1):=zzH (by rw [HV.out,HG.out,HL1.out (.inl c1)])
      exact zz38
     ·by_cases c2:m'<t.func.size
      ·have E:Hid (zbd (f+1) l m= -1):=zzH (by rw [HV.out,HG.out,HL1.out (.inr (.inl c2))])
       exact zz38
      ·by_cases c3:m'<t.bytes.size
       ·have E:Hid (zbd (f+1) l m= -1):=zzH (by rw [HV.out,HG.out,HL1.out (.inr (.inr c3))])
        exact zz38
       ·have E:=zzH (HL2.out (by omega))
        have hBa:=hB.alloc hB.size (.cells #[.int .i64 t.kind,.int .i64 t.int,.int .i64 t.gen,.string t.name,.string t.func,.int .i64 t.arity,.slice ai t.items.length ci,.string t.bytes,.int .i64 t.bits] 116);have HIT2:=zzH (SlAt.tms HIT.out ((zzR wr.heap.size wr).alloc (zzL _) (.cells #[.int .i64 t.kind,.int .i64 t.int,.int .i64 t.gen,.string t.name,.string t.func,.int .i64 t.arity,.slice ai t.items.length ci,.string t.bytes,.int .i64 t.bits] 116)));have HM2:=HM.out t.items (m'-1-t.name.size/8-t.func.size/8-t.bytes.size/8) (by omega);generalize hn1:zbd f t.items (m'-1-t.name.size/8-t.func.size/8-t.bytes.size/8)=n1 at *;have HN1:=zzH hn1;clear hn1;go_wp2_with fail;refine(IH.out ai ci t.items _ _ HIT2.out (by unfold maxLen;omega) (by omega) (by omega)).mono ?_;rintro e w5 ⟨rfl,hb5⟩;rw [HN1.out];go_wp2_with fail;go_roundw
        case rel=>exact⟨k+1,n1,by omega,by go_num,rfl,by omega,by omega,zzH (by rw [HG.out,E.out]),zd hBa hb5⟩
        case measure=>simp [intOf];omega
    ·have E:Hid (zbd (f+1) l m=m'):=zzH (by rw [HV.out,HG.out,zeS (.inr (by omega))])
     go_wp2;go_ret;exact⟨zcp E.out.symm,hB⟩
   ·have E:Hid (zbd (f+1) l m=m'):=zzH (by rw [HV.out,HG.out,zeS (.inl (by rw [List.drop_eq_nil_iff];omega))])
    go_wp2;go_ret;exact⟨zcp E.out.symm,hB⟩
theorem ziP (f:Nat) (ao:zzA) (c:Nat) (l:List Tm) (m:Int) (w:World) (h:SlAt w 9 (TmAt w f) ao l) (hl:l.length<=maxLen) (h0: -1<=m) (h1:m<=1000000):
  Calls Tryz.prog 32 #[.slice ao l.length c,.int .i64 m] w fun e w'=>e= .returned (.bool (decide (zbd f l m<0)))/\Below w.heap.size w w':=by
 have hc:=zgI f ao c l m w h hl h0 h1;have hle:=zdj f l m h0;generalize zbd f l m=n at *;go_in;go_wp2_with fail;refine hc.mono ?_;rintro e w1 ⟨rfl,hb1⟩;go_wp2;go_ret;exact⟨rfl,hb1⟩
theorem zkE (b r:Nat) (hb:b<256) (hr:r<8):b*2^r%256=0↔b%2^(8-r)=0:=by
 match r,hr with
 |0,_=>simp
 |1,_=>simp;omega
 |2,_=>simp;omega
 |3,_=>simp;omega
 |4,_=>simp;omega
 |5,_=>simp;omega
 |6,_=>simp;omega
 |7,_=>simp;omega
 |r+8,h=>omega
theorem zhu {y:ByteArray} {m:Nat} (h:y.size=m+1):zdK y=(y[m]'(by omega)).toNat:=by
 unfold zdK;have hl:y.data.toList.length=m+1:=by rw [Array.length_toList];exact h
 rw [List.getLast?_eq_getElem?,hl,Nat.add_sub_cancel,zzq4 (by omega)]
 rfl
section
variable (k i g:Int) (n f:ByteArray) (a:Int) (so:Option Addr) (l c:Nat) (y:ByteArray) (z:Int) (w:World)
theorem zhY (hl:l<2):Calls Tryz.prog 212 #[.agg #[.int .i64 k,.int .i64 i,.int .i64 g,.string n,.string f,.int .i64 a,.slice so l c,.string y,.int .i64 z]] w fun e w'=>
  e= .returned (.tuple #[.agg #[.int .i64 k,.int .i64 i,.int .i64 g,.string n,.string f,.int .i64 a,.slice none 0 0,.string y,.int .i64 z],.bool false])/\Below w.heap.size w w':=by
 have hd:decide ((2:Int)<=(l:Int))=false:=zzD (by omega);go_in;go_wp2_with fail;exact zzj (v:=.tuple #[.agg #[.int .i64 k,.int .i64 i,.int .i64 g,.string n,.string f,.int .i64 a,.slice none 0 0,.string y,.int .i64 z],.bool false]) (by simp [results,Tryz.results212,go_sem]) rfl ⟨rfl,zx _ _ _⟩
theorem zip (b off m:Nat) (kk:Int) (hm:m<=9223372036854775805) (hb:b<w.heap.size) (hc:w.cell? ⟨b,off+(m+1)*9,none⟩=some (.int .i64 kk)):Calls Tryz.prog 212 #[.agg #[.int .i64 k,.int .i64 i,.int .i64 g,.string n,.string f,.int .i64 a,.slice (some ⟨b,off,none⟩) (m+2) c,.string y,.int .i64 z]] w fun e w'=>
  e = .returned (.tuple #[.agg #[.int .i64 k, .int .i64 i, .int .i64 g, .string n, .string f, .int .i64 a, .slice none 0 0, .string y, .int .i64 z], .bool (kk != 9)]) /\ Below w.heap.size w w' := by
 have hd:decide ((2:Int)<=((m+2:Nat):Int))=true:=zzT (by omega);have hi:(((m+2:Nat):Int)-1).toNat=m+1:=by omega
 go_in;go_wp2_with fail;exact zzj (v := .tuple #[.agg #[.int .i64 k, .int .i64 i, .int .i64 g, .string n, .string f, .int .i64 a, .slice none 0 0, .string y, .int .i64 z], .bool (kk != 9)]) (by simp [results, Tryz.results212, go_sem]) rfl ⟨rfl, zx _ _ _⟩
theorem ziR (hy:y.size<=9223372036854775807) (hz:I64 z):Calls Tryz.prog 213 #[.agg #[.int .i64 k,.int .i64 i,.int .i64 g,.string n,.string f,.int .i64 a,.slice so l c,.string y,.int .i64 z]] w fun e w'=>
  e= .returned (.tuple #[.agg #[.int .i64 k,.int .i64 i,.int .i64 g,.string n,.string f,.int .i64 a,.slice so l c,.string ⟨#[]⟩,.int .i64 0],.bool (zcN y z)])/\Below w.heap.size w w':=by
 have h0:=fun wx=>zbS z 0 16384 wx
 by_cases hw:0<=z/\z<=16384
 ·obtain⟨z0,z1⟩:=hw
  have hwi:=zeR z0 z1;have E0:zcN y z=(decide ((y.size:Int)=(z+7)/8)&&(decide (z%8=0)||decide (zdK y%2^(8-z%8).toNat=0))):=by unfold zcN;rw [hwi];rfl
  rw [hwi]at h0;clear hwi;by_cases hl:(y.size:Int)=(z+7)/8
  ·have hlb:((y.size:Int)==(z+7)/8)=true:=by rw [beq_iff_eq];exact hl
   by_cases hr:z%8=0
   ·have hrb:(z%8!=0)=false:=by rw [bne_eq_false_iff_eq];exact hr
    have E:=zzH (E0.trans (by rw [decide_eq_true hl,decide_eq_true hr];rfl:_=true));rw [E.out];clear E E0 hr hl hz;go_in;go_wp2_with (go_at_call 204;refine(h0 _).mono ?_;rintro e w1 ⟨rfl,rfl⟩);exact zzj (v:=.tuple #[.agg #[.int .i64 k,.int .i64 i,.int .i64 g,.string n,.string f,.int .i64 a,.slice so l c,.string ⟨#[]⟩,.int .i64 0],.bool true]) (by simp [results,Tryz.results213,go_sem]) rfl ⟨rfl,zx _ _ _⟩
   ·have hrb:(z%8!=0)=true:=by rw [bne_iff_ne];exact hr
    obtain⟨m,hm⟩: ∃m,y.size=m+1:=⟨y.size-1,by omega⟩;have hmi:m<y.size:=by omega
    have hmy:m<=100000:=by omega
    have HM:=zzH hm;have hw1:IntKind.i64.wrap ((y.size:Int)-1)=(m:Int):=by rw [zzq5];omega
    have hrem:z.tmod 8=z%8:=by rw [Int.tmod_eq_emod_of_nonneg z0]
    have hr0:0<=z%8:=by omega
    have hr8:z%8<8:=by omega
    have EE:Hid ((((y[m].toNat:Nat):Int)*2^(z%8).toNat%256==0)=zcN y z):=zzH (by
     rw [E0,decide_eq_true hl,decide_eq_false hr,zhu hm];rw [zzq11,zzq8];have h:=zkE y[m].toNat (z%8).toNat (UInt8.toNat_lt _) (by omega);rw [show(8-z%8).toNat=8-(z%8).toNat by omega];rw [Bool.eq_iff_iff,beq_iff_eq,zzq9,<-h];exact⟨fun h=>by exact_mod_cast h,fun h=>by exact_mod_cast h⟩)
    clear hl hz hm hr E0;go_in;go_wp2_with (go_at_call 204;refine(h0 _).mono ?_;rintro e w1 ⟨rfl,rfl⟩);go_quiet (fail);go_wp2_with fail;refine zzj (zbj rfl _ _ _ (w.heap.size+1) _ _ _ _ rfl (zdI _ _ _ _ _ _ _ _ _ ((zzq3 _ _ _ _ (by simp)).trans ((zzq3 _ _ _ _ (by simp)).trans (zcL w _ _)))) Tryz.underlying116 (by kernel_rfl)) rfl ?_;exact⟨by rw [<-EE.out];rfl,zcC (Nat.le_succ _) (((zg (zx _ _ _) _).setCell (zzL _) _).setCell (zzL _) _) _ _ _ _ _ _ _ _ _⟩
  ·have hlb:((y.size:Int)==(z+7)/8)=false:=by rw [zzq1];exact hl
   have E:=zzH (E0.trans (by rw [decide_eq_false hl];rfl:_=false));rw [E.out];clear E E0 hl hz;exact zz39
 ·have hwi:=zdJ hw
  have E:Hid (zcN y z=false):=zzH (by unfold zcN;rw [hwi];rfl);rw [hwi]at h0;rw [E.out];clear E hwi hw hz;exact zz39
end
def zk (t:Tm):Tm:=
 if t.kind=1 then .mk t.kind 0 t.gen t.name t.func t.arity t.items t.bytes t.bits else if t.kind=2 then .mk t.kind t.int t.gen ⟨#[]⟩ t.func t.arity t.items t.bytes t.bits else if t.kind=3 then .mk t.kind 0 0 ⟨#[]⟩ t.func t.arity t.items t.bytes t.bits else if t.kind=4 then .mk t.kind 0 0 ⟨#[]⟩ t.func 0 [] t.bytes t.bits else if t.kind=5 then .mk t.kind t.int t.gen ⟨#[]⟩ ⟨#[]⟩ 0 t.items t.bytes t.bits else if t.kind=6 then .mk t.kind 0 0 ⟨#[]⟩ t.func t.arity t.items t.bytes t.bits else if t.kind=7 then .mk t.kind t.int t.gen t.name t.func t.arity [] t.bytes t.bits else if t.kind=8 then .mk t.kind t.int t.gen t.name t.func t.arity t.items t.bytes t.bits else if t.kind=9 then .mk t.kind t.int t.gen t.name t.func t.arity [] t.bytes t.bits else if t.kind=10 then .mk t.kind t.int t.gen t.name t.func t.arity t.items ⟨#[]⟩ 0 else t
def zcW:Tm:=.mk 0 0 0 ⟨#[]⟩ ⟨#[]⟩ 0 [] ⟨#[]⟩ 0
def zen (t:Tm):Tm:=.mk 0 (zk t).int (zk t).gen (zk t).name (zk t).func (zk t).arity (zk t).items (zk t).bytes (zk t).bits
theorem zl2 (s:ByteArray):(s.toList==(ByteArray.mk #[]).toList)=zS s:=by
 unfold zS;rw [ByteArray.toList_eq,ByteArray.toList_eq];rw [Bool.eq_iff_iff,beq_iff_eq,zzq9];constructor
 ·intro h
  have h2:s.data.toList.length=0:=congrArg List.length h;rw [Array.length_toList]at h2;exact h2
 ·intro h
  have:s.data.size=0:=h;have:s.data=#[]:=Array.eq_empty_of_size_eq_zero this;rw [this]
theorem zma (n:Int):(n==0)=zI n:=by unfold zI;rw [Bool.eq_iff_iff,beq_iff_eq,zzq9]
theorem zme (rec:Tm->Tm->Bool) (l:List Tm):zbw rec l []=zL l:=by cases l<;>rfl
theorem zlG:zS (ByteArray.mk #[])=true:=rfl
theorem zlD:zI 0=true:=rfl
theorem zlI:zL []=true:=rfl
theorem zjE (f:Nat) (a:Tm):zbr (f+1) a zcW=(zI a.kind&&(zI a.int&&(zI a.gen&&(zS a.name&&(zS a.func&&(zI a.arity&&(zS a.bytes&&zI a.bits))))))&&zL a.items):=by
 unfold zbr zgc zcW;simp only [Tm.kind,Tm.int,Tm.gen,Tm.name,Tm.func,Tm.arity,Tm.items,Tm.bytes,Tm.bits,zl2,zma,zme]
theorem zgj {t:Tm} (h: ¬(t.kind=1\/t.kind=2\/t.kind=3\/t.kind=4\/t.kind=5\/t.kind=6\/t.kind=7\/t.kind=8\/t.kind=9\/t.kind=10)):okK t=false:=by
 unfold okK;simp only [not_or]at h;obtain⟨h1,h2,h3,h4,h5,h6,h7,h8,h9,h10⟩:=h;rw [if_neg h1,if_neg h2,if_neg (by omega),if_neg h4,if_neg h5,if_neg h7,if_neg h8,if_neg h9,if_neg h10]
theorem zjB (n m:Nat):decide (n<=m)=decide ((n:Int)<=(m:Int)):=by rw [Bool.eq_iff_iff,zzq9,zzq9];omega
theorem zlY (f:Nat) (t:Tm):(okK t&&zbr (f+1) (zen t) zcW)=zcc t:=by
 rw [zjE];obtain⟨tk,ti,tg,tn,tf,ta,tl,ty,tz⟩:=t;by_cases h:tk=1\/tk=2\/tk=3\/tk=4\/tk=5\/tk=6\/tk=7\/tk=8\/tk=9\/tk=10
 ·unfold zen zcc
  rcases h with rfl|rfl|rfl|rfl|rfl|rfl|rfl|rfl|rfl|rfl
  all_goals
   generalize okK (Tm.mk _ ti tg tn tf ta tl ty tz)=q;simp only [zk,zf9,Tm.kind,Tm.int,Tm.gen,Tm.name,Tm.func,Tm.arity,Tm.items,Tm.bytes,Tm.bits];simp [zlG,zlD,zlI]
   try(cases q<;>cases zI ti<;>cases zI tg<;>cases zS tn<;>cases zS tf<;>cases zI ta<;>cases zL tl<;>cases zS ty<;>cases zI tz<;>rfl)
 ·have:okK (Tm.mk tk ti tg tn tf ta tl ty tz)=false:=zgj h
  unfold zcc;rw [this,Bool.false_and,Bool.false_and]
def zby (w0 w:World) (f:Nat) (t:Tm) (e:Ending) (w':World):Prop:= ∃so' c',e= .returned (.tuple #[.agg #[.int .i64 (zk t).kind,.int .i64 (zk t).int,.int .i64 (zk t).gen,.string (zk t).name,.string (zk t).func,.int .i64 (zk t).arity,.slice so' (zk t).items.length c',.string (zk t).bytes,.int .i64 (zk t).bits],.bool (okK t)]) /\
 SlAt w0 9 (TmAt w0 f) so' (zk t).items/\Below w.heap.size w w'
section
variable (t:Tm) (so:Option Addr) (c f:Nat) (w0 w:World)
theorem zlm (hs:SlAt w0 9 (TmAt w0 f) so t.items) (hk:t.kind=0):Calls Tryz.prog 205 #[.agg #[.int .i64 t.kind,.int .i64 t.int,.int .i64 t.gen,.string t.name,.string t.func,.int .i64 t.arity,.slice so t.items.length c,.string t.bytes,.int .i64 t.bits]] w (zby w0 w f t):=by
 have e1:zk t=t:=by unfold zk;simp [hk]
 have e2:okK t=false:=by unfold okK;simp [hk]
 refine(zjx t.kind t.int t.gen t.name t.func t.arity so t.items.length c t.bytes t.bits w).mono ?_;exact zz40
theorem zk2 (hs:SlAt w0 9 (TmAt w0 f) so t.items) (hk:t.kind=1):Calls Tryz.prog 206 #[.agg #[.int .i64 t.kind,.int .i64 t.int,.int .i64 t.gen,.string t.name,.string t.func,.int .i64 t.arity,.slice so t.items.length c,.string t.bytes,.int .i64 t.bits]] w (zby w0 w f t):=by
 have e1:zk t= .mk t.kind 0 t.gen t.name t.func t.arity t.items t.bytes t.bits:=by unfold zk;simp [hk]
 have e2:okK t=true:=by unfold okK;simp [hk]
 refine(zj2 t.kind t.int t.gen t.name t.func t.arity so t.items.length c t.bytes t.bits w).mono ?_;exact zz40
theorem zk0 (hs:SlAt w0 9 (TmAt w0 f) so t.items) (hk:t.kind=2):Calls Tryz.prog 207 #[.agg #[.int .i64 t.kind,.int .i64 t.int,.int .i64 t.gen,.string t.name,.string t.func,.int .i64 t.arity,.slice so t.items.length c,.string t.bytes,.int .i64 t.bits]] w (zby w0 w f t):=by
 have e1:zk t= .mk t.kind t.int t.gen ⟨#[]⟩ t.func t.arity t.items t.bytes t.bits:=by unfold zk;simp [hk]
 have e2:okK t=zy t.name:=by unfold okK;simp [hk]
 refine(zi5 t.kind t.int t.gen t.name t.func t.arity so t.items.length c t.bytes t.bits w).mono ?_;exact zz40
theorem zlg (hs:SlAt w0 9 (TmAt w0 f) so t.items) (hk:t.kind=3):Calls Tryz.prog 203 #[.agg #[.int .i64 t.kind,.int .i64 t.int,.int .i64 t.gen,.string t.name,.string t.func,.int .i64 t.arity,.slice so t.items.length c,.string t.bytes,.int .i64 t.bits]] w (zby w0 w f t):=by
 exact zz41
theorem zlh (hs:SlAt w0 9 (TmAt w0 f) so t.items) (hk:t.kind=4):Calls Tryz.prog 208 #[.agg #[.int .i64 t.kind,.int .i64 t.int,.int .i64 t.gen,.string t.name,.string t.func,.int .i64 t.arity,.slice so t.items.length c,.string t.bytes,.int .i64 t.bits]] w (zby w0 w f t):=by
 have e1:zk t= .mk t.kind 0 0 ⟨#[]⟩ t.func 0 [] t.bytes t.bits:=by unfold zk;simp [hk]
 have e2:okK t=(wi t.int 0 999&&wi t.gen 1 2147483647&&zy t.name&&wi t.arity 0 16&&decide ((t.items.length:Int)<=(200:Nat))):=by rw [<-zjB];unfold okK;simp [hk]
 refine(zg2 t.kind t.int t.gen t.name t.func t.arity so t.items.length c t.bytes t.bits w).mono ?_;exact zz42
theorem zll (hs:SlAt w0 9 (TmAt w0 f) so t.items) (hk:t.kind=5):Calls Tryz.prog 209 #[.agg #[.int .i64 t.kind,.int .i64 t.int,.int .i64 t.gen,.string t.name,.string t.func,.int .i64 t.arity,.slice so t.items.length c,.string t.bytes,.int .i64 t.bits]] w (zby w0 w f t):=by
 have e1:zk t= .mk t.kind t.int t.gen ⟨#[]⟩ ⟨#[]⟩ 0 t.items t.bytes t.bits:=by unfold zk;simp [hk]
 have e2:okK t=(zy t.name&&zy t.func&&wi t.arity 0 16):=by unfold okK;simp [hk]
 refine(zhr t.kind t.int t.gen t.name t.func t.arity so t.items.length c t.bytes t.bits w).mono ?_;exact zz40
theorem zln (hs:SlAt w0 9 (TmAt w0 f) so t.items) (hk:t.kind=6):Calls Tryz.prog 203 #[.agg #[.int .i64 t.kind,.int .i64 t.int,.int .i64 t.gen,.string t.name,.string t.func,.int .i64 t.arity,.slice so t.items.length c,.string t.bytes,.int .i64 t.bits]] w (zby w0 w f t):=by
 exact zz41
theorem zk9 (hs:SlAt w0 9 (TmAt w0 f) so t.items) (hk:t.kind=7):Calls Tryz.prog 210 #[.agg #[.int .i64 t.kind,.int .i64 t.int,.int .i64 t.gen,.string t.name,.string t.func,.int .i64 t.arity,.slice so t.items.length c,.string t.bytes,.int .i64 t.bits]] w (zby w0 w f t):=by
 have e1:zk t= .mk t.kind t.int t.gen t.name t.func t.arity [] t.bytes t.bits:=by unfold zk;simp [hk]
 have e2:okK t=decide ((t.items.length:Int)<=(255:Nat)):=by rw [<-zjB];unfold okK;simp [hk]
 refine(zhO t.kind t.int t.gen t.name t.func t.arity so t.items.length c t.bytes t.bits w).mono ?_;exact zz42
theorem zlb (hs:SlAt w0 9 (TmAt w0 f) so t.items) (hk:t.kind=8):Calls Tryz.prog 211 #[.agg #[.int .i64 t.kind,.int .i64 t.int,.int .i64 t.gen,.string t.name,.string t.func,.int .i64 t.arity,.slice so t.items.length c,.string t.bytes,.int .i64 t.bits]] w (zby w0 w f t):=by
 have e1:zk t= .mk t.kind t.int t.gen t.name t.func t.arity t.items t.bytes t.bits:=by unfold zk;simp [hk]
 have e2:okK t=true:=by unfold okK;simp [hk]
 refine(zj6 t.kind t.int t.gen t.name t.func t.arity so t.items.length c t.bytes t.bits w).mono ?_;exact zz40
theorem zk1 (hs:SlAt w0 9 (TmAt w0 f) so t.items) (hb:Below w0.heap.size w0 w) (hl:t.items.length<=maxLen) (hk:t.kind=9):Calls Tryz.prog 212 #[.agg #[.int .i64 t.kind,.int .i64 t.int,.int .i64 t.gen,.string t.name,.string t.func,.int .i64 t.arity,.slice so t.items.length c,.string t.bytes,.int .i64 t.bits]] w (zby w0 w f t):=by
 have e1:zk t= .mk t.kind t.int t.gen t.name t.func t.arity [] t.bytes t.bits:=by unfold zk;simp [hk]
 have e2:okK t=(decide (2<=t.items.length)&&decide (zf8 t.items≠9)):=by unfold okK;simp [hk]
 by_cases h2:t.items.length<2
 ·refine(zhY t.kind t.int t.gen t.name t.func t.arity so t.items.length c t.bytes t.bits w h2).mono ?_
  rintro e w' ⟨rfl,hb'⟩;refine⟨none,0,?_,?_,hb'⟩
  ·rw [e1,e2,decide_eq_false (by omega)];rfl
  ·rw [e1];exact SlAt.nil w0 9 _ none
 ·obtain⟨m,hm⟩: ∃m,t.items.length=m+2:=⟨t.items.length-2,by omega⟩
  have hm1:m+1<t.items.length:=by omega
  have hbf:=hs.row hm1;obtain⟨b,off,rfl,hbl,hrow⟩:=hbf;obtain⟨cs,_,hcs,hR⟩:=hrow (m+1) hm1
  have hcell:w.cell? ⟨b,off+(m+1)*9,none⟩=some (.int .i64 (t.items[m+1]).kind):=by
   refine(hb.cell (p:=⟨b,off+(m+1)*9,none⟩) hbl).trans ?_;rw [show off+(m+1)*9=off+(m+1)*9+0 by rfl,hcs 0 (by decide)]
   cases f with
   |zero=>exact hR.elim
   |succ f=>obtain⟨⟨ai,ci,rfl,_⟩,_⟩:=hR;rfl
  have hk9:zf8 t.items=(t.items[m+1]).kind:=by
   unfold zf8;rw [List.getLast?_eq_getElem?,hm,show m+2-1=m+1 by rfl,zzq4 hm1]
  unfold maxLen at hl;have h:=zip t.kind t.int t.gen t.name t.func t.arity c t.bytes t.bits w b off m (t.items[m+1]).kind (by omega) (zzW hbl hb.size) hcell;rw [<-hm]at h;refine h.mono ?_;rintro e w' ⟨rfl,hb'⟩;refine⟨none,0,?_,?_,hb'⟩
  ·rw [e1, e2, decide_eq_true (by omega), hk9, zzq11, show (t.items[m + 1].kind != 9) = decide (t.items[m + 1].kind ≠ 9) by (rw [Bool.eq_iff_iff, bne_iff_ne, zzq9])]; rfl
  ·rw [e1];exact SlAt.nil w0 9 _ none
theorem zkL (hs:SlAt w0 9 (TmAt w0 f) so t.items) (hy:t.bytes.size<=maxLen) (hz:I64 t.bits) (hk:t.kind=10):Calls Tryz.prog 213 #[.agg #[.int .i64 t.kind,.int .i64 t.int,.int .i64 t.gen,.string t.name,.string t.func,.int .i64 t.arity,.slice so t.items.length c,.string t.bytes,.int .i64 t.bits]] w (zby w0 w f t):=by
 have e1:zk t= .mk t.kind t.int t.gen t.name t.func t.arity t.items ⟨#[]⟩ 0:=by unfold zk;simp [hk]
 have e2:okK t=zcN t.bytes t.bits:=by unfold okK zgb;simp [hk]
 refine(ziR t.kind t.int t.gen t.name t.func t.arity so t.items.length c t.bytes t.bits w hy hz).mono ?_;exact zz40
end
end Go.Proofs.YtepjanajflkakaaGreatDoor
