import Derived.Test.YthajedcbgnloeaaGreatDoorW08
import Derived.Test.YthajedcbgnloeaaGreatDoorW09
import Derived.Test.YthajedcbgnloeaaGreatDoorW10
namespace Go.Proofs.YthajedcbgnloeaaGreatDoor
open Go.RowKit
set_option linter.unusedVariables false
set_option linter.unusedSimpArgs false
set_option maxRecDepth 100000
set_option maxHeartbeats 0
structure VIns (u:RUnit) (i:Nat) (x:RIns):Prop where
 op:1<=x.op/\x.op<=40
 jump:JumpOk u.code.length i x
 opd: ∀s,OpdOk u s x
 srcs: ∀s,x.op=1\/x.op=5\/x.op=6\/x.op=7\/x.op=9\/x.op=10->0<x.src.length/\ArgOk u s (zB x)
 n5:x.op=5->0<=x.n/\x.n<=254
 n9:x.op=9->0<=x.n/\x.n<=255
 n24:x.op=24->1<=x.n/\x.n<=8192
 t28:x.op=28->0<=x.to/\x.to<u.code.length
 dstx:x.dst.kind=1->0<=x.dst.n/\x.dst.n<=255
 dsty:x.dst.kind=2->0<=x.dst.n/\x.dst.n<=8191
 dst:x.dst.kind=0\/x.dst.kind=1\/x.dst.kind=2
 dst0:x.dst.kind=0↔zx (zD x.op).1.toNat 1=false
 live:0<=x.live/\x.live<=256
 srcLen:x.src.length<=255
 casesLen:x.cases.length<=1000
 segsLen:x.segs.length<=60
theorem zhG {u:RUnit} {a:RArg} (hl:u.lits.length<=65535) (h:zbh u.lits.length a=true) (s:VSt):ArgOk u s a:=by
 unfold zbh at h;split at h
 ·have:=zb5 h;exact⟨fun _=>this,fun e=>by omega,fun e=>by omega,by unfold I64;omega⟩
 ·split at h
  ·have:=zb5 h;exact⟨fun e=>by omega,fun _=>this,fun _ e=>by omega,by unfold I64;omega⟩
  ·split at h
   ·have:=zb5 h;exact⟨fun e=>by omega,fun e=>by omega,fun _ _=>by omega,by unfold I64;omega⟩
   ·cases h
theorem zqq: ∀k:Nat,(h:k<41)->0<k->(zx (rowT[k]'h).1.toNat 64=true↔toB (k:Int)=true\/k=28)/\(zx (rowT[k]'h).1.toNat 128=true↔zcY (k:Int)=true) /\
  (k=1\/k=5\/k=6\/k=7\/k=9\/k=10->0<(rowT[k]'h).2.1):=by decide
theorem zkF {op:Int} (h:1<=op/\op<=40):(zx (zD op).1.toNat 64=true↔toB op=true\/op=28)/\(zx (zD op).1.toNat 128=true↔zcY op=true)/\(op=1\/op=5\/op=6\/op=7\/op=9\/op=10->0<(zD op).2.1):=by
 obtain⟨k,rfl⟩: ∃k:Nat,op=(k:Int):=⟨op.toNat,by omega⟩;have hk:k<41:=by omega
 have hra:zD (k:Int)=rowT[k]'hk:=by unfold zD;rw [zzq11,zzq3 (by exact hk)];rfl
 rw [hra];obtain⟨a,b,c⟩:=zqq k hk (by omega);exact⟨a.trans ⟨fun h=>h.imp id fun h=>by omega,fun h=>h.imp id fun h=>by omega⟩,b,fun h=>c (by omega)⟩
theorem zih {nf:Nat} {funs:List RFun} {x:RIns} (h:zi nf funs x=true):(x.op=5->0<=x.n/\x.n<=254)/\(x.op=9->0<=x.n/\x.n<=255)/\(x.op=16\/x.op=17->0<=x.n/\x.n<nf) /\
  (x.op=15\/x.op=18\/x.op=19\/x.op=20\/x.op=21->0<=x.n/\x.n<=16)/\(x.op=24->1<=x.n/\x.n<=8192):=by
 unfold zi at h;split at h
 ·omega
 ·split at h
  ·have:=zb5 h;omega
  ·split at h
   ·have:=zb5 h;omega
   ·split at h
    ·have:=zb5 h;omega
    ·split at h
     ·have:=zb5 h;omega
     ·split at h
      ·have:=zb5 h;omega
      ·omega
theorem zqg {u:RUnit} {i:Nat} {x:RIns} (ht:TabOk u) (h:zem u i x=true):VIns u i x:=by
 unfold zem at h;simp only [zzq4]at h;obtain⟨h0,h1,h2,h3,h4,h5⟩:=h;have hop:1<=x.op/\x.op<=40:=by unfold zdA at h0;exact zza h0
 obtain⟨r16,r8,r4,rhi⟩:=zjT hop;obtain⟨v64,v128,vlo⟩:=zkF hop;have hlo:((zD x.op).2.1.toNat:Int)<=x.src.length->x.op=1\/x.op=5\/x.op=6\/x.op=7\/x.op=9\/x.op=10->0<x.src.length:=fun a b=>by have:=vlo b;omega
 generalize hh:(zD x.op).1.toNat=hb at *;unfold zU at h1;simp only [zzq4]at h1;obtain⟨f1,f2,f3,f4,f5,f6,f7,f8,f9,f10⟩:=h1;have w3:=zb5 f3;have w4:=zb5 f4;have hlit:=ht.lits;have hcode:=ht.code1;unfold zbl at h4;simp only [zzq4,zzq8]at h4;obtain⟨⟨g1,g2⟩,g3,g4⟩:=h4;obtain⟨n5,n9,n16,n15,n24⟩:=zih h2
 have hargs:0<=zbS u x/\zbS u x<=1000:=by
  unfold zbS;split
  ·rename_i e;have:=n15 e;omega
  ·split
   ·rename_i e
    have:=n16 e;have hlt:x.n.toNat<u.funcs.length:=by omega
    rw [zzq3 hlt];have:=ht.func _ (zzM hlt);show 0<=(u.funcs[x.n.toNat]).arity/\(u.funcs[x.n.toNat]).arity<=1000;omega
   ·split<;>omega
 have hsrc: ∀s,∀a∈x.src,ArgOk u s a:=fun s a ha=>zhG hlit (zzp.1 f2 a ha) s
 have hdst:(x.dst.kind=1->0<=x.dst.n/\x.dst.n<=255)/\(x.dst.kind=2->0<=x.dst.n/\x.dst.n<=8191)/\(x.dst.kind=0\/x.dst.kind=1\/x.dst.kind=2)/\(x.dst.kind=0↔zx hb 1=false):=by
  unfold zeI at f1;split at f1
  ·rename_i e
   rw [zzq4]at f1;obtain⟨f1,f1'⟩:=f1;have h3:x.dst.kind≠3:=by simpa using f1
   unfold zbh at f1';split at f1'
   ·have:=zb5 f1';exact⟨fun _=>this,fun _=>by omega,by omega,⟨fun _=>by omega,fun h=>by rw [e]at h;cases h⟩⟩
   ·split at f1'
    ·have:=zb5 f1';exact⟨fun _=>by omega,fun _=>this,by omega,⟨fun _=>by omega,fun h=>by rw [e]at h;cases h⟩⟩
    ·simp [h3]at f1'
  ·rename_i e
   rw [zzq4]at f1;have:=zza f1.1;exact⟨by omega,by omega,by omega,⟨fun _=>by simpa using e,fun _=>this⟩⟩
 have hsel:x.cases≠ []->x.op=12:=fun hne=>r16 (by
  cases e:zx hb 16 with
  |true=>rfl
  |false=>
   rw [e,zzq9]at f9;exact absurd (List.length_eq_zero_iff.1 (eq_of_beq f9)) hne)
 have hjump:JumpOk u.code.length i x/\(x.op=28->0<=x.to/\x.to<u.code.length):=by
  unfold zbK at h5;by_cases ho:x.op=39\/x.op=40
  ·rw [if_pos ho,zzq4]at h5
   have hw:=zb5 h5.1;refine⟨⟨fun c hc=>?_,hsel,fun _=>by omega,fun _=>by omega,fun h=>?_⟩,fun _=>by omega⟩
   ·have:=hsel (fun e=>by rw [e]at hc;cases hc);omega
   ·rcases ho with e|e<;>rw [e]at h<;>exact absurd h (by decide)
  ·rw [if_neg ho,zzq4]at h5
   have hto:zx hb 64=true->(i:Int)<x.to/\x.to<u.code.length:=fun e=>by
    have:=h5.2;rw [e]at this;have:=zb5 (show wi x.to ((i:Int)+1) ((u.code.length:Int)-1)=true from this);omega
   refine⟨⟨fun c hc=>?_,hsel,fun h=>?_,fun h _ _=>(hto (v64.2 (.inl h))).1,fun h h28=>?_⟩,fun e=>?_⟩
   ·have:=zb5 (zzp.1 h5.1 c hc);omega
   ·have:=hto (v64.2 (.inl h));omega
   ·cases e:zx hb 64 with
    |false=>rw [e,zzq9]at f7;exact eq_of_beq f7
    |true=>
     rcases v64.1 e with e'|e'
     ·rw [h]at e';cases e'
     ·exact absurd e' h28
   ·have:=hto (v64.2 (.inr e));omega
 refine⟨hop,hjump.1,fun s=>⟨hsrc s,fun g hg=>?_,fun g hg hz=>?_,n16,hargs,by omega,by omega⟩,fun s e=>?_,n5,n9,n24,hjump.2,hdst.1,hdst.2.1,hdst.2.2.1,by rw [hh];exact hdst.2.2.2,by omega,by omega,?_,by omega⟩
 ·have:=zzp.1 g4 g hg
  unfold zbE at this;simp only [zzq4]at this;exact zhG hlit this.2.1 s
 ·have:=zzp.1 g4 g hg
  unfold zbE at this;simp only [zzq4,Bool.or_eq_true,zzq8]at this;rcases this.2.2.1 with h|h
  ·exact absurd h hz
  ·exact zhG hlit h s
 ·have hl:=hlo w3.1 e
  refine⟨hl,?_⟩
  have:zB x=x.src[0]:=by
   unfold zB;rw [List.headD_eq_head?_getD,List.head?_eq_getElem?,zzq3 hl];rfl
  rw [this];exact hsrc s _ (zzM hl)
 ·by_cases e:x.op=12
  ·rw [e]at g1
   have:=zb5 (show wi x.cases.length 1 1000=true from by simpa using g1);omega
  ·have:x.cases= []:=Classical.byContradiction fun hne=>e (hsel hne)
   rw [this];exact zzZ _
structure SInv (n i:Nat) (s:VSt):Prop where
 fr: -1<=s.frame/\s.frame<=8192
 y:s.y.length=s.frame.toNat
 x:s.x.length<=256
 tx:zA s.x=s.x
 t:s.tries.length<=i
 tr: ∀a∈s.tries,0<=a/\a<n
theorem SInv.mono {n i j:Nat} {s:VSt} (h:SInv n i s) (hij:i<=j):SInv n j s:=⟨h.fr,h.y,h.x,h.tx,zzY h.t hij,h.tr⟩
theorem SInv.ok {n i:Nat} {s:VSt} (h:SInv n i s) (hi:i<=1000000):StOk s:=
 ⟨⟨zzY h.x (by decide),by have:=h.y;have:=h.fr;omega,zzY h.t hi⟩,fun _=>h.y,h.fr⟩
theorem ziR (l:List Int):(zA l).length<=l.length:=by unfold zA;rw [List.length_take];omega
theorem zik (l:List Int):zA (zA l)=zA l:=ziQ (zhV l)
theorem SInv.setX {n i:Nat} {s:VSt} (h:SInv n i s) {l:List Int} (hl:l.length<=256) (m:Bool) (r:Int):SInv n i {s with x:=zA l,mt:=m,recv:=r}:=
 ⟨h.fr,h.y,zzY (ziR l) hl,zik l,h.t,h.tr⟩
theorem zgp {n i:Nat} {s:VSt} (h:SInv n i s) (x:RIns):SInv n i (z8 s x):=by
 unfold z8;split
 ·exact h.setX (zzY (List.length_take_le' _ _) h.x) _ _
 ·exact h
theorem zhJ {n i:Nat} {s:VSt} (h:SInv n i s) (a:RArg) (t:Int) (h1:a.kind=1->0<=a.n/\a.n<=255):SInv n i (zb6 s a t):=by
 unfold zb6;split
 ·rename_i k
  refine h.setX ?_ _ _;unfold zc1;rw [List.length_set,zzq12,List.length_replicate];have:=h1 k;have:=h.x;omega
 ·split
  ·exact⟨h.fr,by show(s.y.set _ _).length=_;rw [List.length_set];exact h.y,h.x,h.tx,h.t,h.tr⟩
  ·exact h
theorem zjo:zA [1]= [1]:=by decide
theorem zhW {n i:Nat} {s:VSt} (h:SInv n i s):SInv n i (zci s):=⟨h.fr,h.y,by show([1]:List Int).length<=256;decide,zjo,h.t,h.tr⟩
theorem zi0 {n i:Nat} {s:VSt} (h:SInv n i s):SInv n i (zcL s):=⟨h.fr,by show(List.replicate s.y.length 1).length=_;rw [List.length_replicate];exact h.y,(zhW h).x,zjo,h.t,h.tr⟩
theorem ziC {u:RUnit} {i:Nat} {s:VSt} {x:RIns} (hs:SInv u.code.length i s) (hx:VIns u i x) (hi:i<u.code.length):SInv u.code.length (i+1) (zdj u i s x):=by
 have hc:=zgp hs x
 have hn:SInv u.code.length i (if x.dst.kind≠0 then zb6 (z8 s x) x.dst (zcM u s x)else z8 s x):=by
  split
  ·exact zhJ hc _ _ hx.dstx
  ·exact hc
 have hm:=fun{t:VSt} (h:SInv u.code.length i t)=>h.mono (Nat.le_succ i)
 unfold zdj;simp only;generalize(if x.dst.kind≠0 then zb6 (z8 s x) x.dst (zcM u s x)else z8 s x)=N at *;generalize z8 s x=C at *;split
 ·rename_i h9;exact hm (zhJ hc _ _ ((hx.srcs s (by omega)).2.x))
 ·split
  ·rename_i h9;exact hm (zhJ hc _ _ ((hx.srcs s (by omega)).2.x))
  ·split
   ·exact hm (zhW hc)
   ·split
    ·exact hm (zi0 hc)
    ·split
     ·rename_i h24
      have:=hx.n24 h24;exact hm ⟨by show -1<=x.n/\x.n<=8192;omega,by show(zbY x.n).length=x.n.toNat;unfold zbY;rw [List.length_replicate],hn.x,hn.tx,hn.t,hn.tr⟩
     ·split
      ·exact hm ⟨by show(-1:Int)<= -1/\(-1:Int)<=8192;omega,rfl,hn.x,hn.tx,hn.t,hn.tr⟩
      ·split
       ·rename_i h28
        refine⟨hn.fr,hn.y,hn.x,hn.tx,?_,?_⟩
        ·show(C.tries++ [x.to]).length<=i+1
         rw [zzq12];have:=hc.t;simp;omega
        ·intro a ha
         rcases zzk.1 ha with ha|ha
         ·exact hc.tr a ha
         ·rw [List.mem_singleton.1 ha];exact hx.t28 h28
       ·split
        ·refine⟨hn.fr,hn.y,hn.x,hn.tx,?_,fun a ha=>hc.tr a (List.mem_of_mem_take ha)⟩
         show(C.tries.take _).length<=i+1;have:=hc.t;rw [List.length_take];omega
        ·split
         ·exact hm ⟨hn.fr,hn.y,hn.x,hn.tx,hn.t,hn.tr⟩
         ·split
          ·exact hm ⟨hn.fr,hn.y,hn.x,hn.tx,hn.t,hn.tr⟩
          ·split
           ·exact hm ⟨hn.fr,hn.y,hn.x,hn.tx,hn.t,hn.tr⟩
           ·exact hm hn
theorem ziX {n i:Nat} {s:VSt} (h:SInv n i s) (x:RIns):SInv n i (toV s x):=by
 unfold toV;split
 ·have hp:=zi0 (zgp h x)
  exact⟨hp.fr,hp.y,zzZ _,rfl,hp.t,hp.tr⟩
 ·split
  ·have hp:=zgp h x
   exact⟨hp.fr,hp.y,hp.x,hp.tx,hp.t,hp.tr⟩
  ·exact zgp h x
theorem zoE:zA [1,1]= [1,1]:=by decide
theorem ziZ {n i:Nat} {s:VSt} (h:SInv n i s):SInv n i (zcD s):=
 ⟨h.fr,h.y,by show([1,1]:List Int).length<=256;decide,zoE,by show(s.tries.take _).length<=i;have:=h.t;rw [List.length_take];omega,fun a ha=>h.tr a (List.mem_of_mem_take ha)⟩
theorem zmT {n j:Nat} (h:j<n):(List.replicate n (1:Int)).getD j 0=1:=by
 rw [List.getD_eq_getElem?_getD,List.getElem?_replicate,if_pos h];rfl
theorem znt (n:Nat):zA (List.replicate n (1:Int))=List.replicate n 1:=by
 unfold zA
 cases n with
 |zero=>rfl
 |succ n=>
  have:zbg (List.replicate (n+1) (1:Int)) (List.replicate (n+1) (1:Int)).length=n+1:=by
   rw [List.length_replicate,zbg,if_neg (by rw [zmT (Nat.lt_succ_self n)];decide)]
  rw [this,List.take_of_length_le (by simp)]
theorem ze1 {n:Nat} {a:Int} (h:a<=256):SInv n 0 (zcA a):=
 ⟨by show(-1:Int)<= -1/\(-1:Int)<=8192;omega,rfl,by show(zbY a).length<=256;unfold zbY;rw [List.length_replicate];omega,znt _,zzL _,fun _ h=>by cases h⟩
theorem zgN {n i:Nat} {a b:VSt} (ha:SInv n i a) (hb:SInv n i b) (hf:a.frame=b.frame):SInv n i (zbf a b):=by
 have hy:(zH a.y b.y).length=a.frame.toNat:=by rw [zdr,ha.y,hb.y,<-hf];omega
 refine⟨ha.fr,hy,?_,zik _,ha.t,ha.tr⟩;show(zA (zH a.x b.x)).length<=256;have h1:=ziR (zH a.x b.x);have h2:=zdr a.x b.x;have:=ha.x;omega
structure MInv (n i N:Nat) (m:VM):Prop where
 st:SInv n i m.st
 all: ∀t∈m.all,SInv n i t
 ne:m.all≠ []
 fr:m.wrong=0-> ∀t∈m.all,t.frame=m.st.frame
 wr:zfq m.wrong
 num:m.all.length<=N
theorem MInv.mono {n i j N N':Nat} {m:VM} (h:MInv n i N m) (hij:i<=j) (hN:N<=N'):MInv n j N' m:=⟨h.st.mono hij,fun t ht=>(h.all t ht).mono hij,h.ne,h.fr,h.wr,zzY h.num hN⟩
theorem zij (s:VSt): ∀(l:List VSt) (w:Int),zfq w->zfq (zF s l w)
 |[],_,h=>h
 |t::l,w,h=>zij s l _ (zie s t h)
theorem zhz {s:VSt} {m:VM} (h:zF s m.all m.wrong=0):m.wrong=0/\ ∀t∈m.all,zG s t=0:=by
 obtain⟨h1,h2⟩:=zfE (s:=s) m.all m.wrong;refine⟨?_,fun t ht=>(h2 t ht).elim id fun h3=>absurd h h3.1⟩;by_cases c:m.wrong=0
 ·exact c
 ·exact absurd h (h1 c).1
theorem MInv.frame {n i N:Nat} {m:VM} {s:VSt} (h:MInv n i N m) (hw:zF s m.all m.wrong=0):m.st.frame=s.frame:=by
 obtain⟨h1,h2⟩:=zhz hw;obtain⟨t,l,e⟩:=List.exists_cons_of_ne_nil h.ne;have ht:t∈m.all:=by rw [e];exact zzg ..
 have h3:=(clash_zero.1 (h2 t ht)).1;rw [h3,h.fr h1 t ht]
theorem zpA {n i N:Nat} {mo:Option VM} {s:VSt} {m':VM} (h: ∀m,mo=some m->MInv n i N m) (hs:SInv n i s) (he:zdq mo s=some m'):MInv n i (N+1) m':=by
 cases mo with
 |none=>
  have he:some (VM.mk s [s] 0)=some m':=he;injection he with he;subst he;exact⟨hs,fun t ht=>by rw [List.mem_singleton.1 ht];exact hs,by simp,fun _ t ht=>by rw [List.mem_singleton.1 ht],.inl rfl,by simp⟩
 |some m=>
  have hm:=h m rfl;have he:some (VM.mk (if zF s m.all m.wrong=0 then zbf m.st s else m.st) (if zbj s m.all=true then m.all else m.all++ [s]) (zF s m.all m.wrong))=some m':=he;injection he with he;subst he
  have hall: ∀t∈(if zbj s m.all=true then m.all else m.all++ [s]),t∈m.all\/t=s:=fun t ht=>by
   split at ht
   ·exact .inl ht
   ·rcases zzk.1 ht with ht|ht
    ·exact .inl ht
    ·exact .inr (zzP.1 ht)
  refine⟨?_,fun t ht=>(hall t ht).elim (hm.all t) fun e=>by rw [e];exact hs,?_,fun hw t ht=>?_,zij _ _ _ hm.wr,?_⟩
  ·show SInv n i (if zF s m.all m.wrong=0 then zbf m.st s else m.st)
   split
   ·rename_i hw;exact zgN hm.st hs (hm.frame hw)
   ·exact hm.st
  ·show(if zbj s m.all=true then m.all else m.all++ [s])≠ []
   split
   ·exact hm.ne
   ·simp
  ·have hw:zF s m.all m.wrong=0:=hw
   show t.frame=(if zF s m.all m.wrong=0 then zbf m.st s else m.st).frame;rw [if_pos hw];show t.frame=m.st.frame;rcases hall t ht with h1|h1
   ·exact hm.fr (zhz hw).1 t h1
   ·rw [h1,hm.frame hw]
  ·show(if zbj s m.all=true then m.all else m.all++ [s]).length<=N+1
   have:=hm.num;split
   ·omega
   ·simp;omega
theorem zgw {s:VSt}: ∀{l:List RArg},zbs s l=0-> ∀a∈l,zb2 s a=0
 |[],_,a,h=>by cases h
 |b::l,h,a,ha=>by
  rw [zbs]at h;by_cases c:zb2 s b=0
  ·rw [if_neg (by simp [c])]at h
   rcases List.mem_cons.1 ha with rfl|ha
   ·exact c
   ·exact zgw h a ha
  ·rw [if_pos c]at h;exact absurd h c
theorem zmP {u:RUnit} {i:Nat} {s:VSt} {x:RIns} (hs:SInv u.code.length i s) (hx:VIns u i x) (hc:zb1 u i s x=0):EffOk u s x:=by
 have h1:zbF u s x=0:=zfb hc _ (by simp);have h2:zde i s x=0:=zf1 hc;unfold zbF at h1;by_cases c:zbs s (zdk u x)=0
 ·rw [if_neg (by simp [c])]at h1
  have hd: ¬(x.dst.kind=2/\s.frame<=x.dst.n):=fun h=>by rw [if_pos h]at h1;exact absurd h1 (by decide)
  have hk:=zgw c;refine⟨fun e=>hx.srcs s (by omega),fun e=>?_,zzY hx.srcLen (by decide),hx.dstx,fun e=>?_,hx.live,hx.n9,hx.n24,fun e hn=>?_⟩
  ·obtain⟨a,b⟩:=hx.srcs s (by omega)
   refine⟨a,b.x,fun e2=>?_⟩
   have hm:zB x∈zdk u x:=by
    refine List.mem_append_left _ ?_;unfold zB;rw [List.headD_eq_head?_getD,List.head?_eq_getElem?,zzq3 a];exact zzM a
   have h3:=hk _ hm;unfold zb2 at h3;rw [if_neg (by omega),if_pos e2]at h3;have h4: ¬s.frame<=(zB x).n:=fun h=>by rw [if_pos h]at h3;exact absurd h3 (by decide)
   have:=b.y e2;have:=hs.y;omega
  ·have:=hx.dsty e;have:=hs.y
   have: ¬s.frame<=x.dst.n:=fun h=>hd ⟨e,h⟩
   omega
  ·unfold zde at h2
   rw [hn,if_pos (show([]:List Int).length=0 from rfl),if_pos e]at h2;exact absurd h2 (by decide)
 ·rw [if_pos c]at h1;exact absurd h1 c
def AInv (n i N:Nat) (M:Nat->Option VM):Prop:= ∀j m,M j=some m->MInv n i N m
theorem AInv.mono {n i j N N':Nat} {M:Nat->Option VM} (h:AInv n i N M) (hij:i<=j) (hN:N<=N'):AInv n j N' M:=fun k m e=>(h k m e).mono hij hN
theorem znU {n i N:Nat} {M:Nat->Option VM} (h:AInv n i N M) {p:Nat × VSt} (hs:SInv n i p.2):AInv n i (N+1) (zX M p):=by
 intro j m e;unfold zX at e;split at e
 ·exact zpA (fun m' e'=>h j m' e') hs e
 ·exact(h j m e).mono (zzL _) (Nat.le_succ _)
theorem AInv.nil (n i N:Nat):AInv n i N (fun _=>none):=fun _ _ e=>by cases e
structure VEnv (w0 w:World) (E U mb:Nat) (at':Int) (u:RUnit) (lo fo go co:Option Addr) (lc fc gc cc mc:Nat):Prop where
 ex:w.heap[E]?=some (.cells #[.pointer (some ⟨U,0,none⟩),.slice (some ⟨mb,0,none⟩) u.code.length mc,.int .i64 at'] 63 (0,0))
 bx:UBox w0 U u lo fo go co lc fc gc cc
 up:UP w0 u lo fo go co
 bl:Below w0.heap.size w0 w
 le:w0.heap.size<=mb
section
variable {w0 w w':World} {E U mb:Nat} {at':Int} {u:RUnit} {lo fo go co:Option Addr} {lc fc gc cc mc:Nat}
theorem VEnv.cx (h:VEnv w0 w E U mb at' u lo fo go co lc fc gc cc mc):VCx w E U mb at' u lo fo go co lc fc gc cc mc:=⟨h.ex,h.bx.below h.bl,h.up.below h.bl⟩
theorem VEnv.below (h:VEnv w0 w E U mb at' u lo fo go co lc fc gc cc mc) (hb:Below w.heap.size w w'):VEnv w0 w' E U mb at' u lo fo go co lc fc gc cc mc:=
 ⟨(hb.block E (zd h.ex)).trans h.ex,h.bx,h.up,h.bl.trans (hb.mono h.bl.size),h.le⟩
theorem VEnv.add (h:VEnv w0 w E U mb at' u lo fo go co lc fc gc cc mc) (k:KeepT w w') (b:Below mb w w'):VEnv w0 w' E U mb at' u lo fo go co lc fc gc cc mc:=
 ⟨k.2 E _ _ _ h.ex (by decide) (by decide),h.bx,h.up,h.bl.trans (b.mono h.le),h.le⟩
end
def AddK (mb:Nat) (w w':World):Prop:=KeepT w w'/\Below mb w w'
theorem AddK.refl (mb:Nat) (w:World):AddK mb w w:=⟨.refl _,zzR _ _⟩
theorem AddK.trans {mb:Nat} {a b c:World} (h:AddK mb a b) (k:AddK mb b c):AddK mb a c:=⟨h.1.trans k.1,h.2.trans k.2⟩
theorem AddK.below {mb:Nat} {w w':World} (hm:mb<=w.heap.size) (h:Below w.heap.size w w'):AddK mb w w':=⟨.below h,h.mono hm⟩
theorem MeetAt.below {w w':World} {mb len:Nat} {M:Nat->Option VM} {cs:Array Value} {g:Nat->Nat} (h:MeetAt w mb len M cs g) (hb:Below w.heap.size w w'):MeetAt w' mb len M cs g:=
 ⟨(hb.block mb (zd h.row)).trans h.row,h.size,h.inj,fun k hk=>by
  obtain⟨pv,av,wv,f0,f1,f2,h1⟩:=h.one k hk;exact⟨pv,av,wv,f0,f1,f2,h1.stay (.below hb) fun hn=>hb.block _ (h.lt hk hn).2⟩⟩
theorem MeetAt.mb {w:World} {mb len:Nat} {M:Nat->Option VM} {cs:Array Value} {g:Nat->Nat} (h:MeetAt w mb len M cs g):mb<w.heap.size:=zd h.row
theorem zoQ {n i N k:Nat} {M:Nat->Option VM} {s:VSt} (h:AInv n i N M) (hs:SInv n i s) (hi:i<=1000000) (hN:N<=1000000000000):AddOk (M k) s:=
 ⟨fun m e=>((h k m e).st.ok hi).len,fun m e t ht=>(((h k m e).all t ht).ok hi).len,fun m e=>zzY (h k m e).num hN,fun m e hw=>by rw [(h k m e).st.y,hs.y,(h k m e).frame hw],fun m e=>(h k m e).wr⟩
def MeetI (w:World) (mb n i N:Nat) (M:Nat->Option VM):Prop:=(∃cs g,MeetAt w mb n M cs g)/\AInv n i N M
theorem MeetI.below {w w':World} {mb n i N:Nat} {M:Nat->Option VM} (h:MeetI w mb n i N M) (hb:Below w.heap.size w w'):MeetI w' mb n i N M:=
 ⟨h.1.elim fun cs h=>h.elim fun g h=>⟨cs,g,h.below hb⟩,h.2⟩
theorem MeetI.mb {w:World} {mb n i N:Nat} {M:Nat->Option VM} (h:MeetI w mb n i N M):mb<w.heap.size:=by
 obtain⟨⟨cs,g,h⟩,-⟩:=h;exact h.mb
theorem MeetI.mono {w:World} {mb n i j N N':Nat} {M:Nat->Option VM} (h:MeetI w mb n i N M) (hij:i<=j) (hN:N<=N'):MeetI w mb n j N' M:=⟨h.1,h.2.mono hij hN⟩
theorem zeC (mb n i N k q:Nat) (M:Nat->Option VM) (s:VSt) (w:World) (h:MeetI w mb n i N M) (hk:k<n) (hs:StAt w q s) (hS:SInv n i s) (hi:i<=1000000) (hN:N<=1000000000000):
  Calls Tryz.prog 29 #[.pointer (some ⟨mb,k*3,none⟩),.pointer (some ⟨q,0,none⟩)] w fun e w'=>e= .returned (.tuple #[])/\MeetI w' mb n i (N+1) (zX M (k,s))/\AddK mb w w':=by
 obtain⟨⟨cs,g,hm⟩,hA⟩:=h;refine(zoF mb n k q M s cs g w hm hk hs (hS.ok hi).len (zoQ hA hS hi hN)).mono ?_;rintro e w' ⟨rfl,h1,h2,h3⟩;exact⟨rfl,⟨h1,znU hA hS⟩,h2,h3⟩
section
variable {w:World} {Y i:Nat} {v:Value} {cs:Array Value} {fr:Nat × Nat}
theorem zcR {b:Nat} {cs':Array Value} {T T':TypeId} {fr':Nat × Nat} (hb:w.heap[b]?=some (.cells cs' T' fr')) (hY:w.heap[Y]?=some (.cells cs T fr)) (hT:T≠T'):(w.setCell ⟨Y,i,none⟩ v).heap[b]?=some (.cells cs' T' fr'):=
 (zzq6 w ⟨Y,i,none⟩ b v (fun h=>by
  have h':b=Y:=h;rw [h',hY]at hb;exact hT (by injection hb with hb;injection hb))).trans hb
theorem StAt.setFar {b:Nat} {s:VSt} (h:StAt w b s) (hY:w.heap[Y]?=some (.cells cs 63 fr)):StAt (w.setCell ⟨Y,i,none⟩ v) b s:=by
 exact zz96
theorem MOne.setFar {mb g:Nat} {pv av wv:Value} {mo:Option VM} (h:MOne w mb pv av wv g mo) (hY:w.heap[Y]?=some (.cells cs 63 fr)):MOne (w.setCell ⟨Y,i,none⟩ v) mb pv av wv g mo:=by
 cases mo with
 |none=>exact h
 |some m=>
  obtain⟨⟨b,e1,h1⟩,e2,ps,e3,h2,h3,h4⟩:=h;exact⟨⟨b,e1,h1.setFar hY⟩,e2,ps,e3,fun j a b=>(h2 j a b).setFar hY,⟨h3.1,h3.2.imp id fun⟨g',cap,cur,a,b,c,d⟩=>⟨g',cap,cur,a,b,zcR c hY (by decide),d⟩⟩,h4⟩
theorem MeetI.setFar {mb n j N:Nat} {M:Nat->Option VM} (h:MeetI w mb n j N M) (hY:w.heap[Y]?=some (.cells cs 63 fr)):MeetI (w.setCell ⟨Y,i,none⟩ v) mb n j N M:=
 ⟨h.1.elim fun cs' h=>h.elim fun g h=>⟨cs',g,zcR h.row hY (by decide),h.size,h.inj,fun k hk=>by
  obtain⟨pv,av,wv,f0,f1,f2,h1⟩:=h.one k hk;exact⟨pv,av,wv,f0,f1,f2,h1.setFar hY⟩⟩,h.2⟩
theorem VEnv.setAt {w0:World} {E U mb:Nat} {a:Int} {u:RUnit} {lo fo go co:zzA} {lc fc gc cc mc:Nat} (h:VEnv w0 w E U mb a u lo fo go co lc fc gc cc mc) (hE:w0.heap.size<=E) (a':Int):
  VEnv w0 (w.setCell ⟨E,2,none⟩ (.int .i64 a')) E U mb a' u lo fo go co lc fc gc cc mc:=
 ⟨zzS w E 2 _ _ _ h.ex,h.bx,h.up,h.bl.setCell (p:=⟨E,2,none⟩) hE _,h.le⟩
end
theorem zok:(Tryz.prog.info? 60).map (fun i=>(i.zero,i.size,i.bytes))=some (some (.agg #[.pointer none,.slice none 0 0,.int .i64 0]),3,40):=by kernel_rfl
theorem zpT (n:Nat) (hn:n<=1000000): ∃arr:Array Value,arr.size=n*3/\(∀k,k<n->arr[k*3]?=some (.pointer none)/\arr[k*3+1]?=some (.slice none 0 0)/\arr[k*3+2]?=some (.int .i64 0)) /\
  ∀wx:World,(Instr.makeSlice 61 (.int .i64 (n:Int)) (.int .i64 (n:Int))).run Tryz.prog wx= .ok (.slice (some ⟨wx.heap.size,0,none⟩) n n) (wx.alloc (.cells arr 60)):=by
 obtain⟨i0,hi,hz0,hz1,hz2⟩:=info_parts zok;refine⟨madeCells (Value.agg #[.pointer none,.slice none 0 0,.int .i64 0]).cells (n*i0.size),by rw [size_madeCells,hz1],fun k hk=>?_,fun wx=>?_⟩
 ·rw [hz1]
  have h3:(Value.agg #[.pointer none,.slice none 0 0,.int .i64 0]).cells=#[.pointer none,.slice none 0 0,.int .i64 0]:=by rfl
  rw [h3];have e0:k*3%3=0:=by omega
  have e1:(k*3+1)%3=1:=by omega
  have e2:(k*3+2)%3=2:=by omega
  unfold madeCells;refine⟨?_,?_,?_⟩
  ·rw [Array.getElem?_map,Array.getElem?_range,if_pos (by omega)];simp [e0]
  ·rw [Array.getElem?_map,Array.getElem?_range,if_pos (by omega)];simp [e1]
  ·rw [Array.getElem?_map,Array.getElem?_range,if_pos (by omega)];simp [e2]
 ·have:=run_make (P:=Tryz.prog) wx 61 60 i0 _ Tryz.underlying61 hi hz0 .i64 .i64 n n (by omega) (Int.le_refl _) (by rw [hz2];omega) (by omega)
  exact zz66
theorem zkY {w:World} {mb n:Nat} {arr:Array Value} (hr:w.heap[mb]?=some (.cells arr 60 (0,0))) (hs:arr.size=n*3) (ha: ∀k,k<n->arr[k*3]?=some (.pointer none)/\arr[k*3+1]?=some (.slice none 0 0)/\arr[k*3+2]?=some (.int .i64 0)) (i N:Nat):MeetI w mb n i N (fun _=>none):=
 ⟨⟨arr,fun _=>0,hr,hs,fun _ _ _ _ _ h=>absurd rfl h,fun k hk=>⟨_,_,_,(ha k hk).1,(ha k hk).2.1,(ha k hk).2.2,rfl,rfl,rfl⟩⟩,AInv.nil _ _ _⟩
def zeR:Array Value:=#[.func (.func 56) #[] #[],.func (.func 57) #[] #[],.func (.func 58) #[] #[],.func (.func 59) #[] #[],.func (.func 61) #[] #[],.func (.func 63) #[] #[]]
theorem zjI (w:World):Calls Tryz.prog 31 #[] w fun e w'=>e= .returned (.slice (some ⟨w.heap.size,0,none⟩) 6 6)/\w'.heap[w.heap.size]?=some (.cells zeR 90 (0,0))/\Below w.heap.size w w':=by
 have h1:=zzF w (.cells zeR 90);have h2:=(zzR w.heap.size w).alloc (zzL _) (.cells zeR 90);have H1:=zzH h1;have H2:=zzH h2;clear h1 h2;go_in;go_wp2;go_ret;exact⟨rfl,H1.out,H2.out⟩
def CsAt (w:World) (b:Nat) (s:VSt):Prop:= ∃xo xc yo yc to' tc,w.heap[b]?=some (.cells (zj s xo xc yo yc to' tc) 40 (0,0))/\StLs w s xo xc yo yc to' tc
theorem StLs.below {w w':World} {s:VSt} {xo yo to':zzA} {xc yc tc:Nat} (h:StLs w s xo xc yo yc to' tc) (k:Below w.heap.size w w'):StLs w' s xo xc yo yc to' tc:=h.keep (.below k)
theorem CsAt.below {w w':World} {b:Nat} {s:VSt} (h:CsAt w b s) (k:Below w.heap.size w w'):CsAt w' b s:=by
 obtain⟨xo,xc,yo,yc,to',tc,hr,hl⟩:=h;exact⟨xo,xc,yo,yc,to',tc,(k.block b (zd hr)).trans hr,hl.below k⟩
theorem CsAt.setFar {w:World} {b Y i:Nat} {s:VSt} {v:Value} {cs:Array Value} {fr:Nat × Nat} (h:CsAt w b s) (hY:w.heap[Y]?=some (.cells cs 36 fr)):CsAt (w.setCell ⟨Y,i,none⟩ v) b s:=by
 exact zz96
theorem zN {w:World} {b:Nat} {T:TypeId} {v0 v1 v2 v3 v4 v5 v6:Value} (h:w.heap[b]?=some (.cells #[v0,v1,v2,v3,v4,v5,v6] T (0,0))):
  w.cell? ⟨b,0,none⟩=some v0/\w.cell? ⟨b,1,none⟩=some v1/\w.cell? ⟨b,2,none⟩=some v2/\w.cell? ⟨b,3,none⟩=some v3/\w.cell? ⟨b,4,none⟩=some v4/\w.cell? ⟨b,5,none⟩=some v5/\w.cell? ⟨b,6,none⟩=some v6:=
 ⟨zzq0 w b 0 _ _ _ h,zzq0 w b 1 _ _ _ h,zzq0 w b 2 _ _ _ h,zzq0 w b 3 _ _ _ h,zzq0 w b 4 _ _ _ h,zzq0 w b 5 _ _ _ h,zzq0 w b 6 _ _ _ h⟩
theorem zln (s:VSt) (xo yo to' xo2 yo2 to2:zzA) (xc yc tc xc2 yc2 tc2:Nat) (w:World) (h1:StLs w s xo xc yo yc to' tc) (h2:StLs w s xo2 xc2 yo2 yc2 to2 tc2) (ls:VLen s):
  Calls Tryz.prog 11 #[.agg (zzs s xo xc yo yc to' tc),.agg (zzs s xo2 xc2 yo2 yc2 to2 tc2)] w
   fun e w'=>e= .returned (.bool true)/\Below w.heap.size w w':=by
 unfold zzs;obtain⟨hA,hB,hb⟩:=zdV w (.cells #[.int .i64 s.frame,.slice xo s.x.length xc,.slice yo s.y.length yc,.slice to' s.tries.length tc,.bool s.mt,.int .i64 s.recv,.int .i64 s.frm] 40) (.cells #[.int .i64 s.frame,.slice xo2 s.x.length xc2,.slice yo2 s.y.length yc2,.slice to2 s.tries.length tc2,.bool s.mt,.int .i64 s.recv,.int .i64 s.frm] 40);have g1:=h1.below hb;have g2:=h2.below hb;have lx:s.x.length<=1000000:=zzY ls.x (by decide);have ly:s.y.length<=1000000:=zzY ls.y (by decide);have eq1: ∀l:List Int,decide (l=l)=true:=fun l=>zzT rfl
 refine zzK3 (fun(wx:World) (hx:wx.heap=_)=>zdX s.x s.x xo xo2 xc xc2 wx (g1.x.heap hx) (g2.x.heap hx) lx lx) (fun(wx:World) (hx:wx.heap=_)=>zdX s.y s.y yo yo2 yc yc2 wx (g1.y.heap hx) (g2.y.heap hx) ly ly) (fun(wx:World) (hx:wx.heap=_)=>zdX s.tries s.tries to' to2 tc tc2 wx (g1.t.heap hx) (g2.t.heap hx) ls.t ls.t) fun HX HY HT=>?_;simp only [eq1]at HX HY HT;refine zzK3 hA hB hb fun HA HB HBB=>?_;clear g1 g2 lx ly eq1 hA hB hb h1 h2 ls;go_in;go_upto_region 1 with fail;generalize(w.alloc _).alloc _=W at *;generalize hH:w.heap.size=H at *;obtain⟨c0,c1,c2,c3,c4,c5,c6⟩:=zN HA.out;obtain⟨d0,d1,d2,d3,d4,d5,d6⟩:=zN HB.out;generalize s.frame=f at *;generalize s.mt=mt at *;generalize s.recv=r at *;generalize s.frm=g at *;generalize s.x.length=nx at *;generalize s.y.length=ny at *;generalize s.tries.length=nt at *;go_wp2_with fail;refine(HX.out _ rfl).mono ?_;rintro e w1 ⟨rfl,q1,rfl⟩;go_wp2_with fail;refine(HY.out (W.drewN q1) rfl).mono ?_;rintro e w2 ⟨rfl,q2,rfl⟩;go_wp2_with fail;refine(HT.out (W.drewN (q1+q2)) rfl).mono ?_;rintro e w3 ⟨rfl,q3,rfl⟩;go_wp2;go_ret;exact⟨by simp,by rw [hH];exact zm HBB.out _⟩
theorem OwnI.off {w w':World} {N:Nat} {v:Value} {l:List Int} (h:w.ownsRow N 3 1 v l.length (l.map (Value.int .i64))) (hk: ∀q,N<=q->w'.heap[q]?=w.heap[q]?):OwnI w' N v l:=
 ⟨h.1,h.2.imp id fun⟨g,cap,cur,a,b,c,d⟩=>⟨g,cap,cur,a,b,(hk g b).trans c,d⟩⟩
abbrev ERow (ao:Option Addr) (k c:Nat):Array Value:=#[.int .i64 (-1),.slice ao k c,.slice none 0 0,.slice none 0 0,.bool false,.int .i64 0,.int .i64 0]
theorem zho (n:Nat) (hn:n<=100000) (w:World):
  Calls Tryz.prog 40 #[.int .i64 n] w fun e w'=>(∃ao c,e= .returned (.agg (ERow ao n c))/\IntsAt w' ao (List.replicate n 1)/\n<=c)/\Below w.heap.size w w':=by
 obtain⟨g1,g2,g3⟩:=zdV w (.cells #[.int .i64 0,.slice none 0 0,.slice none 0 0,.slice none 0 0,.bool false,.int .i64 0,.int .i64 0] 40) (.cells (ERow none 0 0) 40);refine zzK3 g1 g2 g3 fun HZ HS HB=>?_;obtain⟨i0,hi,hz0,hz1,hz2⟩:=info_parts zdo;have hn1:(n:Int)<=100000:=by omega
 clear g1 g2 g3;go_in;go_wp2_with fail;generalize(w.alloc _).alloc _=W at *;have hN0:w.heap.size+1<W.heap.size:=zd HS.out;obtain⟨N,hN⟩: ∃N,N=W.heap.size:=⟨_,rfl⟩;rw [<-hN]at hN0;have HN:=zzH hN;go_loopw [4] (fun v wr=> ∃k:Nat,k<=n/\v= .int .i64 k/\Hid (∃ao c,wr.heap[w.heap.size+1]?=some (.cells (ERow ao k c) 40 (0,0))/\OwnI wr N (.slice ao k c) (List.replicate k 1))/\Hid (wr.heap[w.heap.size]?=some (.cells #[.int .i64 0,.slice none 0 0,.slice none 0 0,.slice none 0 0,.bool false,.int .i64 0,.int .i64 0] 40 (0,0)))/\Hid (Below w.heap.size w wr)/\Hid (N<=wr.heap.size)) (fun v _=>n-(intOf v).toNat)
 case atStart=>exact⟨0,zzZ _,rfl,zzH ⟨none,0,HS.out,World.ownsRow_nil _ _ _ _⟩,HZ,HB,zzH (Nat.le_of_eq HN.out)⟩
 case round=>
  obtain⟨k,hk,rfl,HK,HZ',HB',HNL⟩:=hrel;rename World=>wr
  obtain⟨ao,c,hrow,hown⟩:=HK.out;have HROW:=zzH hrow;have HO:=zzH hown;by_cases hlt:k<n
  ·obtain⟨b0,b1,b2,b3,b4,b5,b6⟩:=zN hrow
   have HOA:Hid (OwnI (wr.alloc (.cells #[.int .i64 1] 3)) N (.slice ao k c) (List.replicate k 1)):=zzH (hown.alloc _);have hlen:(List.replicate k (1:Int)).length=k:=by simp
   have hNs:N<=wr.heap.size+1:=Nat.le_succ_of_le HNL.out;have hba:(wr.alloc (.cells #[.int .i64 1] 3)).heap[w.heap.size+1]?=some (.cells (ERow ao k c) 40 (0,0)):=(Below.heap_alloc _ _ _ (zd hrow)).trans hrow
   have hbz:(wr.alloc (.cells #[.int .i64 1] 3)).heap[w.heap.size]?=_:=(Below.heap_alloc _ _ _ (zd HZ'.out)).trans HZ'.out
   have HBA:=zzH hba;have HBZ:=zzH hbz;clear hrow hown hba hbz;go_wp2_with (at_builtin;refine wpList_append_own _ rfl (.tmp 12) (.tmp 13) 38 rfl N 3 i0 (.int .i64 0) 1 8 Tryz.underlying38 hi hz0 hz1 hz2 rfl (by decide) _ _ _ rfl HOA.out ⟨wr.heap.size,0,none⟩ 1 1 [.int .i64 1] rfl rfl (zd5 _ _ _) (by simp [Value.oneCell']) (by rw [hlen];unfold maxLen;omega) (by rw [hlen];omega) (by simpa using hNs) ?_;intro v' w2 ho2 hg2 _;have hown2:OwnI w2 N v' (List.replicate (k+1) 1):=(by unfold OwnI at *;rw [List.replicate_succ'];simpa using ho2);obtain⟨ao',c',rfl,-,-⟩:=hown2.ints;rw [List.length_replicate]at hown2 ⊢;have hr2:=(hg2.block (w.heap.size+1) (zd HBA.out) (fun e=>by have:=(HOA.out.lt _ e.symm).1;omega)).trans HBA.out;have hr3:=(hg2.block w.heap.size (zd HBZ.out) (fun e=>by have:=(HOA.out.lt _ e.symm).1;omega)).trans HBZ.out;have p1:=zzq0 _ _ 1 _ _ _ hr2;have z1:=zzq5 _ _ 1 _ _ hr2;refine zzK4 hr2 hr3 hown2 hg2 fun HR2 HR3 HO2 HG2=>?_;clear hr2 hr3 hown2 hg2 ho2);have e1:(w2.setCell ⟨w.heap.size+1,1,none⟩ (.slice ao' (k+1) c')).heap[w.heap.size+1]?=some (.cells (ERow ao' (k+1) c') 40 (0,0)):=zzS _ _ 1 _ _ _ HR2.out
   have e2:OwnI (w2.setCell ⟨w.heap.size+1,1,none⟩ (.slice ao' (k+1) c')) N (.slice ao' (k+1) c') (List.replicate (k+1) 1):=by
    exact OwnI.off HO2.out (fun q hq=>zzq6 w2 ⟨w.heap.size+1,1,none⟩ _ _ (by show q≠w.heap.size+1;omega))
   have e3:(w2.setCell ⟨w.heap.size+1,1,none⟩ (.slice ao' (k+1) c')).heap[w.heap.size]?=_:=(zzq6 _ _ _ _ (by show w.heap.size≠w.heap.size+1;omega)).trans HR3.out
   have e4:=((HB'.out.alloc (by omega) (.cells #[.int .i64 1] 3)).grown HG2.out (by simp;omega) fun k' e=>by have:=(HOA.out.lt k' e).1;omega).setCell (p:=⟨w.heap.size+1,1,none⟩) (Nat.le_succ _) (.slice ao' (k+1) c');have e5:N<=(w2.setCell ⟨w.heap.size+1,1,none⟩ (.slice ao' (k+1) c')).heap.size:=by have:=HG2.out.size;simp at this ⊢;omega
   exact⟨⟨k+1,hlt,by go_num,zzH ⟨ao',c',e1,e2⟩,zzH e3,zzH e4,zzH e5⟩,by simp [intOf];omega⟩
  ·obtain rfl:k=n:=by omega
   clear hrow hown;go_upto_region 6 with fail;rename_i K hK;refine wp_region_list ?_;refine wpList_load_row rfl 40 (.tmp 3) rfl (w.heap.size+1) rfl 40 _ _ _ HROW.out Tryz.underlying40 rfl (by kernel_rfl) ?_;refine zzm rfl 40 (.tmp 2) (.tmp 16) rfl w.heap.size (ERow ao k c) rfl rfl 40 _ HZ'.out (by kernel_rfl) rfl (by simp [Value.oneCell']) ?_;refine wpList_nil ?_;refine hK _ _ ?_;refine wp_ret ?_;refine zzj (results_cell_row rfl _ _ w.heap.size _ _ _ _ rfl (setRow_heap _ _ _ _ _ _ HZ'.out) Tryz.underlying40 rfl (by kernel_rfl)) rfl ?_;have h2:=HO.out;unfold OwnI at h2;have h3:OwnI (wr.setRow w.heap.size (ERow ao k c)) N (.slice ao k c) (List.replicate k 1):=OwnI.off h2 (fun q hq=>zzv _ _ _ _ (by omega));obtain⟨ao',c',e,hi',hle⟩:=h3.ints;rw [List.length_replicate]at e hle;injection e with q1 q2 q3;subst q1;subst q3;exact⟨⟨ao,c,rfl,hi',hle⟩,below_setRow HB'.out (zzL _) _⟩
theorem zh0 (n:Nat) (hn:n<=100000) (w:World):
  Calls Tryz.prog 120 #[.int .i64 n] w fun e w'=>(∃v,e= .returned v/\OwnI w' w.heap.size v (List.replicate n 1))/\Below w.heap.size w w':=by
 obtain⟨i0,hi,hz0,hz1,hz2⟩:=info_parts zdo;have hn1:(n:Int)<=100000:=by omega
 go_in;go_wp2_with fail;go_loopw [3,4] (fun sv iv wr=> ∃(k:Nat) (ao:zzA) (c:Nat),k<=n/\sv= .slice ao k c/\iv= .int .i64 k/\Hid (OwnI wr w.heap.size (.slice ao k c) (List.replicate k 1))/\Hid (Below w.heap.size w wr)) (fun _ iv _=>n-(intOf iv).toNat)
 case atStart=>exact⟨0,none,0,zzZ _,rfl,rfl,zzH (World.ownsRow_nil _ _ _ _),zzH (zzR _ _)⟩
 case round=>
  obtain⟨k,ao,c,hk,rfl,rfl,HO,HB⟩:=hrel;rename World=>wr
  by_cases hlt:k<n
  ·have HOA:Hid (OwnI (wr.alloc (.cells #[.int .i64 1] 3)) w.heap.size (.slice ao k c) (List.replicate k 1)):=zzH (HO.out.alloc _)
   have hlen:(List.replicate k (1:Int)).length=k:=by simp
   have hNs:w.heap.size<=wr.heap.size+1:=Nat.le_succ_of_le HB.out.size;go_wp2_with (at_builtin;refine wpList_append_own _ rfl (.tmp 10) (.tmp 11) 38 rfl w.heap.size 3 i0 (.int .i64 0) 1 8 Tryz.underlying38 hi hz0 hz1 hz2 rfl (by decide) _ _ _ rfl HOA.out ⟨wr.heap.size,0,none⟩ 1 1 [.int .i64 1] rfl rfl (zd5 _ _ _) (by simp [Value.oneCell']) (by rw [hlen];unfold maxLen;omega) (by rw [hlen];omega) (by simpa using hNs) ?_;intro v' w2 ho2 hg2 _;have hown2:OwnI w2 w.heap.size v' (List.replicate (k+1) 1):=(by unfold OwnI at *;rw [List.replicate_succ'];simpa using ho2);obtain⟨ao',c',rfl,-,-⟩:=hown2.ints;rw [List.length_replicate]at hown2 ⊢;have HO2:=zzH hown2;have HG2:=zzH hg2;clear hown2 hg2 ho2);have e4:=((HB.out.alloc HB.out.size (.cells #[.int .i64 1] 3)).grown HG2.out (by simpa using hNs) fun k' e=>(HOA.out.lt k' e).1);exact⟨⟨k+1,ao',c',hlt,rfl,by go_num,HO2,zzH e4⟩,by simp [intOf];omega⟩
  ·obtain rfl:k=n:=by omega
   go_wp2;go_ret;exact⟨⟨_,rfl,HO.out⟩,HB.out⟩
def openL:List Int:=[1,5,6,7,8,9,10,11,12,13,30,31,32,33,34,37,38,39,40]
def zc3 (op:Int):Bool:=decide (op∈openL)
theorem zev (op:Int) (w:World):
  Calls Tryz.prog 86 #[.int .i64 op] w fun e w'=>e= .returned (.bool (zc3 op))/\Below w.heap.size w w':=by
 have hr:=zzF w (.cells #[.int .i64 1,.int .i64 5,.int .i64 6,.int .i64 7,.int .i64 8,.int .i64 9,.int .i64 10,.int .i64 11,.int .i64 12,.int .i64 13,.int .i64 30,.int .i64 31,.int .i64 32,.int .i64 33,.int .i64 34,.int .i64 37,.int .i64 38,.int .i64 39,.int .i64 40] 3);have hb:Below w.heap.size w (w.alloc (.cells #[.int .i64 1,.int .i64 5,.int .i64 6,.int .i64 7,.int .i64 8,.int .i64 9,.int .i64 10,.int .i64 11,.int .i64 12,.int .i64 13,.int .i64 30,.int .i64 31,.int .i64 32,.int .i64 33,.int .i64 34,.int .i64 37,.int .i64 38,.int .i64 39,.int .i64 40] 3)):=zzE _ _;have HRW:=zzH hr;have HB:=zzH hb;clear hr hb;go_in;go_wp2_with fail;generalize w.alloc _=W at *;go_loopw [4] (fun v wr=> ∃k:Nat,k<=19/\v= .int .i64 k/\wr=W/\Hid (∀j,j<k->openL[j]?≠some op)) (fun v _=>19-(intOf v).toNat)
 case atStart=>exact⟨0,by omega,rfl,rfl,zzH fun j hj=>absurd hj (zzC _)⟩
 case round=>
  obtain⟨k,hk,rfl,rfl,HNO⟩:=hrel;rename World=>wr
  by_cases hlt:k<19
  ·obtain⟨x,hx⟩: ∃x,openL[k]?=some x:=⟨_,zzq3 hlt⟩
   have e1:wr.cell? ⟨w.heap.size,k,none⟩=some (.int .i64 x):=by
    rw [zzq0 _ _ _ _ _ _ HRW.out,List.getElem?_toArray];show(openL.map (Value.int .i64))[k]?=_
    rw [List.getElem?_map,hx];rfl
   have hk0:(0:Int)<=(k:Int):=by omega
   have hk1:(k:Int)<19:=by omega
   by_cases hxo:x=op
   ·have u1:(x==op)=true:=by simpa using hxo
    have HE:Hid (zc3 op=true):=zzH (zzT (by rw [<-hxo];exact List.mem_of_getElem? hx));clear hxo hx;go_wp2;go_ret;exact⟨by rw [HE.out];rfl,HB.out⟩
   ·have u1:(x==op)=false:=by simpa using hxo
    have HN2:Hid (∀j,j<k+1->openL[j]?≠some op):=zzH fun j hj=>by
     by_cases c:j=k
     ·rw [c,hx];exact fun e=>hxo (zzf e)
     ·exact HNO.out j (by omega)
    clear hxo hx;go_wp2_with fail
    first|exact⟨⟨k+1,hlt,by go_num,rfl,HN2⟩,by simp [intOf];omega⟩|exact⟨⟨k+1,hlt,by go_num,trivial,HN2⟩,by simp [intOf];omega⟩
  ·obtain rfl:k=19:=by omega
   have HE:Hid (zc3 op=false):=zzH (zzD fun hm=>by
    obtain⟨j,hj,he⟩:=List.getElem_of_mem hm;exact HNO.out j hj (by rw [zzq3 hj,he]))
   go_wp2;go_ret;exact⟨by rw [HE.out];rfl,HB.out⟩
theorem zhg (s:VSt) (xo yo to':zzA) (xc yc tc:Nat) (w:World):
  Calls Tryz.prog 119 #[.agg (zzs s xo xc yo yc to' tc)] w
   fun e w'=>(∃g,e= .returned (.agg #[.int .i64 s.frame,.slice (some ⟨g,0,none⟩) 1 1,.slice yo s.y.length yc,.slice to' s.tries.length tc,.bool false,.int .i64 s.recv,.int .i64 s.frm])/\w.heap.size<=g/\w'.heap[g]?=some (.cells #[.int .i64 1] 3 (0,0)))/\Below w.heap.size w w':=by
 unfold zzs;obtain⟨gA,gB,gC,hb⟩:=zbR w (.cells #[.int .i64 s.frame,.slice (some ⟨w.heap.size+1+1,0,none⟩) 1 1,.slice yo s.y.length yc,.slice to' s.tries.length tc,.bool false,.int .i64 s.recv,.int .i64 s.frm] 40) (.cells #[.int .i64 0,.slice none 0 0,.slice none 0 0,.slice none 0 0,.bool false,.int .i64 0,.int .i64 0] 40) (.cells #[.int .i64 1] 3);refine zzK4 gA gB gC hb fun HA HB HC HBB=>?_;clear gA gB gC hb;go_in;go_upto_region 3 with fail;generalize((w.alloc _).alloc _).alloc _=W at *;rename_i K hK;refine wp_region_list ?_;refine wpList_load_row rfl 40 (.tmp 1) rfl w.heap.size rfl 40 _ _ _ HA.out Tryz.underlying40 rfl (by kernel_rfl) ?_;refine zzm rfl 40 (.tmp 2) (.tmp 6) rfl (w.heap.size+1) #[.int .i64 s.frame,.slice (some ⟨w.heap.size+1+1,0,none⟩) 1 1,.slice yo s.y.length yc,.slice to' s.tries.length tc,.bool false,.int .i64 s.recv,.int .i64 s.frm] rfl rfl 40 _ HB.out (by kernel_rfl) rfl (by simp [Value.oneCell']) ?_;refine wpList_nil ?_;refine hK _ _ ?_;refine wp_ret ?_;refine zzj (results_cell_row rfl _ _ (w.heap.size+1) _ _ _ _ rfl (setRow_heap _ _ _ _ _ _ HB.out) Tryz.underlying40 rfl (by kernel_rfl)) rfl ?_;exact⟨⟨w.heap.size+1+1,rfl,by omega,(zzv _ _ _ _ (by omega)).trans HC.out⟩,below_setRow HBB.out (Nat.le_succ _) _⟩
def KeepI (w w':World):Prop:=w.heap.size<=w'.heap.size/\ ∀(k:Nat) (cs:Array Value) (fr:Nat × Nat),w.heap[k]?=some (Obj.cells cs 3 fr)->w'.heap[k]?=some (Obj.cells cs 3 fr)
theorem KeepI.below {w w':World} (h:Below w.heap.size w w'):KeepI w w':=⟨h.size,fun k cs fr x=>(h.block k (zd x)).trans x⟩
theorem KeepI.trans {a b c:World} (h:KeepI a b) (k:KeepI b c):KeepI a c:=⟨zzY h.1 k.1,fun j cs fr x=>k.2 j cs fr (h.2 j cs fr x)⟩
theorem IntsAt.keepI {w w':World} {ao:zzA} {l:List Int} (h:IntsAt w ao l) (k:KeepI w w'):IntsAt w' ao l:=
 h.imp id fun⟨b,off,cs,fr,e,hb,hr⟩=>⟨b,off,cs,fr,e,k.2 b cs fr hb,hr⟩
theorem StLs.keepI {w w':World} {s:VSt} {xo yo to':zzA} {xc yc tc:Nat} (h:StLs w s xo xc yo yc to' tc) (k:KeepI w w'):StLs w' s xo xc yo yc to' tc:=
 ⟨h.x.keepI k,h.y.keepI k,h.t.keepI k,h.xl,h.yl,h.tl⟩
def StR (w:World) (cs:List Value) (s:VSt):Prop:= ∃xo xc yo yc to' tc,cs=(zj s xo xc yo yc to' tc).toList/\StLs w s xo xc yo yc to' tc
theorem StR.keepI {w w':World} {cs:List Value} {s:VSt} (h:StR w cs s) (k:KeepI w w'):StR w' cs s:=by
 obtain⟨xo,xc,yo,yc,to',tc,e,hl⟩:=h;exact⟨xo,xc,yo,yc,to',tc,e,hl.keepI k⟩
theorem StR.len {w:World} {cs:List Value} {s:VSt} (h:StR w cs s):cs.length=7:=by
 obtain⟨xo,xc,yo,yc,to',tc,rfl,hl⟩:=h;rfl
theorem StR.one {w:World} {cs:List Value} {s:VSt} (h:StR w cs s): ∀u∈cs,u.oneCell'=true:=by
 obtain⟨xo,xc,yo,yc,to',tc,rfl,hl⟩:=h;intro u hu;simp [zj]at hu;rcases hu with rfl|rfl|rfl|rfl|rfl|rfl|rfl<;>rfl
def RowsS (w:World):List Value->List VSt->Prop
 |xs,[]=>xs= []
 |xs,t::ts=> ∃cs ys,xs=cs++ys/\StR w cs t/\RowsS w ys ts
theorem RowsS.keepI {w w':World} (k:KeepI w w'): ∀{ts:List VSt} {xs:List Value},RowsS w xs ts->RowsS w' xs ts
 |[],_,h=>h
 |_::_,_,⟨cs,ys,a,b,c⟩=>⟨cs,ys,a,b.keepI k,RowsS.keepI k c⟩
theorem RowsS.snoc {w:World} {cs:List Value} {t:VSt} (hR:StR w cs t): ∀{ts:List VSt} {xs:List Value},RowsS w xs ts->RowsS w (xs++cs) (ts++ [t])
 |[],xs,h=>⟨cs,[],by rw [show xs= []from h];simp,hR,rfl⟩
 |_::_,_,⟨cs',ys,a,b,c⟩=>⟨cs',ys++cs,by rw [a,zzq20],b,RowsS.snoc hR c⟩
theorem RowsS.get {w:World}: ∀{ts:List VSt} {xs:List Value},RowsS w xs ts-> ∀j (h:j<ts.length),∃cs:List Value,(∀i,i<7->xs[j*7+i]?=cs[i]?)/\StR w cs ts[j]
 |[],_,_,j,h=>absurd h (zzC _)
 |t::ts,_,⟨cs,ys,a,b,c⟩,0,_=>⟨cs,fun i hi=>by rw [a,Nat.zero_mul,Nat.zero_add,List.getElem?_append_left (by rw [b.len];omega)],b⟩
 |t::ts,_,⟨cs,ys,a,b,c⟩,j+1,h=>by
  obtain⟨cs',h2,h3⟩:=RowsS.get c j (by simpa using h);refine⟨cs',fun i hi=>?_,h3⟩;rw [a,List.getElem?_append_right (by rw [b.len,Nat.succ_mul];omega),<-h2 i hi];congr 1;rw [b.len,Nat.succ_mul];omega
def AccS (w:World) (B:Nat) (v:Value) (l:List VSt):Prop:= ∃xs,w.ownsRow B 40 7 v l.length xs/\RowsS w xs l
def LstAt (w:World) (ao:Option Addr) (l:List VSt):Prop:=
 l= []\/ ∃b cs,ao=some ⟨b,0,none⟩/\w.heap[b]?=some (.cells cs 40 (0,0))/\ ∀j (h:j<l.length),∃xo xc yo yc to' tc,(∀i,i<7->cs[j*7+i]?=(zj l[j] xo xc yo yc to' tc)[i]?)/\StLs w l[j] xo xc yo yc to' tc
theorem AccS.lst {w:World} {B:Nat} {v:Value} {l:List VSt} (h:AccS w B v l): ∃ao c,v= .slice ao l.length c/\LstAt w ao l:=by
 obtain⟨xs,ho,hr⟩:=h;rcases ho.2 with⟨rfl,h0⟩|⟨g,cap,cur,rfl,hB,hg,h1,h2,h3,h4⟩
 ·exact⟨none,0,by rw [h0],.inl (zzQ h0)⟩
 ·refine⟨_,_,rfl,.inr ⟨g,cur,rfl,hg,fun j hj=>?_⟩⟩
  obtain⟨cs,k2,xo,xc,yo,yc,to',tc,rfl,hl⟩:=hr.get j hj;refine⟨xo,xc,yo,yc,to',tc,fun i hi=>?_,hl⟩;have h5:=k2 i hi;rw [<-h4,List.getElem?_take_of_lt (by omega),Array.getElem?_toList]at h5;rw [h5,Array.getElem?_toList]
theorem LstAt.below {w w':World} {ao:zzA} {l:List VSt} (h:LstAt w ao l) (hb:Below w.heap.size w w'):LstAt w' ao l:=
 h.imp id fun⟨b,cs,e,hr,hx⟩=>⟨b,cs,e,(hb.block b (zd hr)).trans hr,fun j hj=>by
  obtain⟨xo,xc,yo,yc,to',tc,h1,h2⟩:=hx j hj;exact⟨xo,xc,yo,yc,to',tc,h1,h2.below hb⟩⟩
theorem LstAt.cells {w:World} {ao:zzA} {l:List VSt} (h:LstAt w ao l) {j:Nat} (hj:j<l.length):
  ∃b xo xc yo yc to' tc,ao=some ⟨b,0,none⟩/\b<w.heap.size/\w.cell? ⟨b,j*7,none⟩=some (.int .i64 l[j].frame)/\w.cell? ⟨b,j*7+1,none⟩=some (.slice xo l[j].x.length xc)/\w.cell? ⟨b,j*7+2,none⟩=some (.slice yo l[j].y.length yc) /\
   w.cell? ⟨b,j*7+3,none⟩=some (.slice to' l[j].tries.length tc)/\w.cell? ⟨b,j*7+4,none⟩=some (.bool l[j].mt)/\w.cell? ⟨b,j*7+5,none⟩=some (.int .i64 l[j].recv)/\w.cell? ⟨b,j*7+6,none⟩=some (.int .i64 l[j].frm)/\StLs w l[j] xo xc yo yc to' tc:=by
 rcases h with h|⟨b,cs,e,hr,hx⟩
 ·rw [h]at hj;exact absurd hj (zzC _)
 ·obtain⟨xo,xc,yo,yc,to',tc,h1,h2⟩:=hx j hj
  refine⟨b,xo,xc,yo,yc,to',tc,e,zd hr,?_,?_,?_,?_,?_,?_,?_,h2⟩
  ·rw [zzq0 _ _ _ _ _ _ hr];exact h1 0 (by omega)
  ·rw [zzq0 _ _ _ _ _ _ hr];exact h1 1 (by omega)
  ·rw [zzq0 _ _ _ _ _ _ hr];exact h1 2 (by omega)
  ·rw [zzq0 _ _ _ _ _ _ hr];exact h1 3 (by omega)
  ·rw [zzq0 _ _ _ _ _ _ hr];exact h1 4 (by omega)
  ·rw [zzq0 _ _ _ _ _ _ hr];exact h1 5 (by omega)
  ·rw [zzq0 _ _ _ _ _ _ hr];exact h1 6 (by omega)
structure KnownAt (w:World) (kb n:Nat) (K:Nat->List VSt) (cs:Array Value) (g:Nat->Nat):Prop where
 row:w.heap[kb]?=some (.cells cs 101 (0,0))
 size:cs.size=n
 inj: ∀j k,j<n->k<n->j≠k->K j≠ []->K k≠ []->g j≠g k
 one: ∀k,k<n-> ∃v,cs[k]?=some v/\AccS w (kb+1) v (K k)/\(K k= []->v= .slice none 0 0)/\(K k≠ []->v.ownBlock=some (g k))
def zcW (w:World) (kb n:Nat) (K:Nat->List VSt) (g:Nat->Nat) (j:Nat):Prop:=j<w.heap.size/\j≠kb/\ ∀k,k<n->K k≠ []->g k≠j
def KeepK (kb n:Nat) (w:World) (K:Nat->List VSt) (g:Nat->Nat) (w':World) (K':Nat->List VSt) (g':Nat->Nat):Prop:=
 w.heap.size<=w'.heap.size/\ ∀j,zcW w kb n K g j->zcW w' kb n K' g' j/\w'.heap[j]?=w.heap[j]?
section
variable {w w' w'':World} {kb n:Nat} {K K' K'':Nat->List VSt} {cs cs':Array Value} {g g' g'':Nat->Nat}
theorem KeepK.refl:KeepK kb n w K g w K g:=⟨zzL _,fun _ h=>⟨h,rfl⟩⟩
theorem KeepK.trans (h:KeepK kb n w K g w' K' g') (h':KeepK kb n w' K' g' w'' K'' g''):KeepK kb n w K g w'' K'' g'':=
 ⟨zzY h.1 h'.1,fun j hj=>⟨(h'.2 j (h.2 j hj).1).1,(h'.2 j (h.2 j hj).1).2.trans (h.2 j hj).2⟩⟩
theorem KeepK.below (hb:Below w.heap.size w w'):KeepK kb n w K g w' K g:=⟨hb.size,fun j hj=>⟨⟨zzW hj.1 hb.size,hj.2⟩,hb.block j hj.1⟩⟩
theorem KnownAt.blk (h:KnownAt w kb n K cs g) {k:Nat} (hk:k<n) (hn:K k≠ []):kb<g k/\ ∃cur,w.heap[g k]?=some (.cells cur 40 (0,0)):=by
 obtain⟨v,-,⟨xs,ho,-⟩,-,h2⟩:=h.one k hk;rcases ho.2 with⟨-,h0⟩|⟨g',cap,cur,rfl,hB,hg,-⟩
 ·exact absurd (zzQ h0) hn
 ·have e:g'=g k:=by simpa [Value.ownBlock] using h2 hn
  subst e;exact⟨hB,cur,hg⟩
theorem KnownAt.lt (h:KnownAt w kb n K cs g) {k:Nat} (hk:k<n) (hn:K k≠ []):g k<w.heap.size:=by
 obtain⟨-,cur,hg⟩:=h.blk hk hn;exact zd hg
theorem KnownAt.far (h:KnownAt w kb n K cs g) {j:Nat} {cs':Array Value} {T:TypeId} {fr:Nat × Nat} (hr:w.heap[j]?=some (.cells cs' T fr)) (h1:T≠101) (h2:T≠40):zcW w kb n K g j:=by
 refine⟨zd hr,fun e=>?_,fun k hk hn e=>?_⟩
 ·subst e
  rw [h.row]at hr;injection hr with hr;injection hr with _ hr _;exact h1 hr.symm
 ·obtain⟨-,cur,hg⟩:=h.blk hk hn
  rw [e,hr]at hg;injection hg with hg;injection hg with _ hg _;exact h2 hg
theorem KnownAt.keepI (h:KnownAt w kb n K cs g) (hk:KeepK kb n w K g w' K' g'):KeepI w w':=
 ⟨hk.1,fun j c fr hr=>(hk.2 j (h.far hr (by decide) (by decide))).2.trans hr⟩
theorem KnownAt.below (h:KnownAt w kb n K cs g) (hb:Below w.heap.size w w'):KnownAt w' kb n K cs g:=
 ⟨(hb.block kb (zd h.row)).trans h.row,h.size,h.inj,fun k hk=>by
  obtain⟨v,h1,⟨xs,ho,hx⟩,h2,h3⟩:=h.one k hk;exact⟨v,h1,⟨xs,ho.kept (zdU hb none) (by cases v.ownBlock<;>simp),hx.keepI (.below hb)⟩,h2,h3⟩⟩
theorem zkx (K:Nat->List VSt) (k:Nat) (s:VSt):zbd K (k,s) k=K k++ [s]:=by unfold zbd;rw [if_pos rfl]
theorem zgn (K:Nat->List VSt) {j k:Nat} (s:VSt) (h:j≠k):zbd K (k,s) j=K j:=by unfold zbd;rw [if_neg h]
theorem KnownAt.app (H:KnownAt w kb n K cs g) {k:Nat} (hk:k<n) {v v':Value} {xs row:List Value} {s:VSt} (hv:cs[k]?=some v) (hxs:RowsS w xs (K k)) (hrow:StR w row s)
  (hown:w'.ownsRow (kb+1) 40 7 v' ((K k).length+1) (xs++row)) (hg:w.grownBy w' v.ownBlock) (hat:v'.ownBlock=v.ownBlock\/v'.ownBlock=some w.heap.size):
  ∃cs' g',KnownAt (w'.setCell ⟨kb,k,none⟩ v') kb n (zbd K (k,s)) cs' g'/\KeepK kb n w K g (w'.setCell ⟨kb,k,none⟩ v') (zbd K (k,s)) g'/\Below kb w (w'.setCell ⟨kb,k,none⟩ v'):=by
 have hkw:=zd H.row;obtain⟨v0,hv0,-,hn0,hn1⟩:=H.one k hk;rw [hv]at hv0;injection hv0 with hv0;subst hv0
 obtain⟨gk,cap,cur,rfl,hB,hgg,hrest⟩: ∃gk cap cur,v'= .slice (some ⟨gk,0,none⟩) ((K k).length+1) cap/\kb+1<=gk/\w'.heap[gk]?=some (.cells cur 40 (0,0))/\(K k).length+1<=cap:=by
  rcases hown.2 with⟨-,h0⟩|⟨gk,cap,cur,e,hB,hgg,h1,-⟩
  ·omega
  ·exact⟨gk,cap,cur,e,hB,hgg,h1⟩
 have hgk:(K k≠ []/\gk=g k)\/gk=w.heap.size:=by
  rcases hat with h|h
  ·by_cases c:K k= []
   ·rw [hn0 c]at h;simp [Value.ownBlock]at h
   ·rw [hn1 c]at h;left;exact⟨c,by simpa [Value.ownBlock] using h⟩
  ·right;simpa [Value.ownBlock] using h
 have hkeep: ∀j,j<w.heap.size->j≠kb->(K k≠ []->g k≠j)->(w'.setCell ⟨kb,k,none⟩ (.slice (some ⟨gk,0,none⟩) ((K k).length+1) cap)).heap[j]?=w.heap[j]?:=fun j hj h1 h2=>by
  refine(zzq6 w' ⟨kb,k,none⟩ j _ h1).trans (hg.block j hj fun e=>?_);by_cases c:K k= []
  ·rw [hn0 c]at e;simp [Value.ownBlock]at e
  ·rw [hn1 c]at e;exact h2 c (zzf e).symm
 have hsz:(w'.setCell ⟨kb,k,none⟩ (.slice (some ⟨gk,0,none⟩) ((K k).length+1) cap)).heap.size=w'.heap.size:=by simp [World.setCell]
 have hkbr:w'.heap[kb]?=some (.cells cs 101 (0,0)):=(hg.block kb hkw fun e=>by
  by_cases c:K k= []
  ·rw [hn0 c]at e;simp [Value.ownBlock]at e
  ·rw [hn1 c]at e
   have h1:=(H.blk hk c).1;have h2:=zzf e;omega).trans H.row
 have hKI:KeepI w (w'.setCell ⟨kb,k,none⟩ (.slice (some ⟨gk,0,none⟩) ((K k).length+1) cap)):=⟨by rw [hsz];exact hg.size,fun j c fr hr=>by
  have hf:=H.far hr (by decide) (by decide);exact(hkeep j hf.1 hf.2.1 fun c=>hf.2.2 k hk c).trans hr⟩
 have hne: ∀j,j≠k->(zbd K (k,s) j≠ []↔K j≠ []):=fun j hj=>by rw [zgn K s hj]
 refine⟨cs.setIfInBounds k (.slice (some ⟨gk,0,none⟩) ((K k).length+1) cap),fun j=>if j=k then gk else g j,⟨?_,?_,?_,?_⟩,⟨by rw [hsz];exact hg.size,?_⟩,?_⟩
 ·exact zzS _ _ _ _ _ _ hkbr
 ·rw [Array.size_setIfInBounds];exact H.size
 ·intro i j hi hj hij h1 h2
  have key: ∀i,i<n->i≠k->K i≠ []->g i≠gk:=fun i hi hik hni e=>by
   rcases hgk with⟨h3,h4⟩|h3
   ·exact H.inj i k hi hk hik hni h3 (e.trans h4)
   ·have:=H.lt hi hni;omega
  by_cases c1:i=k
  ·have c2:j≠k:=fun e=>hij (c1.trans e.symm)
   simp only [c1,if_true,c2,if_false];exact(key j hj c2 ((hne j c2).1 h2)).symm
  ·by_cases c2:j=k
   ·simp only [c1,if_false,c2,if_true]
    exact key i hi c1 ((hne i c1).1 h1)
   ·simp only [c1,c2,if_false]
    exact H.inj i j hi hj hij ((hne i c1).1 h1) ((hne j c2).1 h2)
 ·intro j hj
  by_cases c:j=k
  ·subst c
   refine⟨_,by rw [zzq7,if_pos rfl,if_pos (by rw [H.size];exact hj)],?_,fun h=>?_,fun _=>?_⟩
   ·rw [zkx]
    refine⟨xs++row,?_,?_⟩
    ·rw [zzq12]
     exact ownsRow_setCell_below hown (Nat.lt_succ_self kb) _
    ·exact(hxs.keepI hKI).snoc (hrow.keepI hKI)
   ·rw [zkx]at h;simp at h
   ·simp only [if_true];rfl
  ·obtain⟨vj,h1,⟨ys,ho,hy⟩,h2,h3⟩:=H.one j hj
   refine⟨vj,by rw [zzq7,if_neg (fun e=>c e.symm)];exact h1,?_,fun h=>?_,fun h=>?_⟩
   ·rw [zgn K s c]
    refine⟨ys,⟨ho.1,?_⟩,hy.keepI hKI⟩;by_cases cj:K j= []
    ·rw [h2 cj,cj];exact .inl ⟨rfl,rfl⟩
    ·have hb:=H.blk hj cj
     refine ho.2.imp id fun⟨g2,cap2,cur2,a,b,d,e⟩=>⟨g2,cap2,cur2,a,b,?_,e⟩
     have e2:g2=g j:=by have:=h3 cj;rw [a]at this;simpa [Value.ownBlock] using this
     subst e2;exact(hkeep _ (zd d) (by omega) fun ck e=>H.inj j k hj hk c cj ck e.symm).trans d
   ·rw [zgn K s c]at h;exact h2 h
   ·simp only [c,if_false]
    rw [zgn K s c]at h;exact h3 h
 ·intro j hj
  refine⟨⟨by rw [hsz];exact zzW hj.1 hg.size,hj.2.1,fun i hi hn e=>?_⟩,hkeep j hj.1 hj.2.1 fun c=>hj.2.2 k hk c⟩;by_cases c:i=k
  ·simp only [c,if_true]at e
   rcases hgk with⟨h3,h4⟩|h3
   ·exact hj.2.2 k hk h3 (h4.symm.trans e)
   ·have:=hj.1;omega
  ·simp only [c,if_false]at e
   exact hj.2.2 i hi ((hne i c).1 hn) e
 ·refine⟨?_,?_,?_,by rw [hsz];exact hg.size,fun j hj=>?_⟩
  ·exact hg.os
  ·exact hg.tape
  ·exact hg.output
  ·refine hkeep j (Nat.lt_trans hj hkw) (Nat.ne_of_lt hj) fun c e=>?_
   have:=(H.blk hk c).1;omega
end
theorem ziS:(Tryz.prog.info? 40).map (fun i=>(i.zero,i.size,i.bytes))=some (some (.agg #[.int .i64 0,.slice none 0 0,.slice none 0 0,.slice none 0 0,.bool false,.int .i64 0,.int .i64 0]),7,104):=by kernel_rfl
theorem zpR:(Tryz.prog.info? 101).map (fun i=>(i.zero,i.size,i.bytes))=some (some (.slice none 0 0),1,24):=by kernel_rfl
theorem zpK (n:Nat) (hn:n<=1000000): ∃arr:Array Value,arr.size=n/\(∀k,k<n->arr[k]?=some (.slice none 0 0)) /\
  ∀wx:World,(Instr.makeSlice 100 (.int .i64 (n:Int)) (.int .i64 (n:Int))).run Tryz.prog wx= .ok (.slice (some ⟨wx.heap.size,0,none⟩) n n) (wx.alloc (.cells arr 101)):=by
 obtain⟨i0,hi,hz0,hz1,hz2⟩:=info_parts zpR;refine⟨madeCells (Value.slice none 0 0).cells (n*i0.size),by rw [size_madeCells,hz1,Nat.mul_one],fun k hk=>?_,fun wx=>?_⟩
 ·rw [hz1]
  have h3:(Value.slice none 0 0).cells=#[.slice none 0 0]:=by rfl
  rw [h3];unfold madeCells;rw [Array.getElem?_map,Array.getElem?_range,if_pos (by omega)];simp [Nat.mod_one]
 ·have:=run_make (P:=Tryz.prog) wx 100 101 i0 _ Tryz.underlying100 hi hz0 .i64 .i64 n n (by omega) (Int.le_refl _) (by rw [hz2];omega) (by omega)
  exact zz66
theorem zjK {w:World} {kb n:Nat} {arr:Array Value} (hr:w.heap[kb]?=some (.cells arr 101 (0,0))) (hs:arr.size=n) (ha: ∀k,k<n->arr[k]?=some (.slice none 0 0)):KnownAt w kb n (fun _=>[]) arr (fun _=>0):=
 ⟨hr,hs,fun _ _ _ _ _ h=>absurd rfl h,fun k hk=>⟨_,ha k hk,⟨[],World.ownsRow_nil _ _ _ _,rfl⟩,fun _=>rfl,fun h=>absurd rfl h⟩⟩
structure FoundAt (w:World) (sb n:Nat) (S:Nat->Option VSt) (ps:Array Value) (far:Nat->Prop):Prop where
 row:w.heap[sb]?=some (.cells ps 36 (0,0))
 size:ps.size=n
 non: ∀k,k<n->S k=none->ps[k]?=some (.pointer none)
 one: ∀k,k<n-> ∀s,S k=some s-> ∃b,ps[k]?=some (.pointer (some ⟨b,0,none⟩))/\far b/\CsAt w b s
theorem CsAt.lt {w:World} {b:Nat} {s:VSt} (h:CsAt w b s):b<w.heap.size:=by
 obtain⟨_,_,_,_,_,_,h,_⟩:=h;exact zd h
theorem FoundAt.keep {w w':World} {sb n:Nat} {S:Nat->Option VSt} {ps:Array Value} {far far':Nat->Prop} (h:FoundAt w sb n S ps far) (hI:KeepI w w') (hs:w'.heap[sb]?=w.heap[sb]?) (hf: ∀b,far b->b<w.heap.size->far' b/\w'.heap[b]?=w.heap[b]?):FoundAt w' sb n S ps far':=
 ⟨hs.trans h.row,h.size,h.non,fun k hk s e=>by
  obtain⟨b,h1,h2,h3⟩:=h.one k hk s e;have h4:=hf b h2 h3.lt;obtain⟨xo,xc,yo,yc,to',tc,hr,hl⟩:=h3;exact⟨b,h1,h4.1,xo,xc,yo,yc,to',tc,h4.2.trans hr,hl.keepI hI⟩⟩
theorem zkk {w:World} {sb n:Nat} {arr:Array Value} (hr:w.heap[sb]?=some (.cells arr 36 (0,0))) (hs:arr.size=n) (ha: ∀k,k<n->arr[k]?=some (.pointer none)) (far:Nat->Prop):FoundAt w sb n (fun _=>none) arr far:=
 ⟨hr,hs,fun k hk _=>ha k hk,fun k hk s e=>by cases e⟩
theorem FoundAt.set {w:World} {sb n i b:Nat} {S:Nat->Option VSt} {ps:Array Value} {far:Nat->Prop} {s:VSt} (h:FoundAt w sb n S ps far) (hi:i<n) (hb:CsAt w b s) (hf:far b):
  FoundAt (w.setCell ⟨sb,i,none⟩ (.pointer (some ⟨b,0,none⟩))) sb n (zcw S i s) (ps.setIfInBounds i (.pointer (some ⟨b,0,none⟩))) far:=by
 refine⟨zzS _ _ _ _ _ _ h.row,by rw [Array.size_setIfInBounds];exact h.size,fun k hk e=>?_,fun k hk t e=>?_⟩
 ·unfold zcw at e
  by_cases c:k=i
  ·rw [if_pos c]at e;cases e
  ·rw [if_neg c]at e
   rw [zzq7,if_neg (fun e=>c e.symm)];exact h.non k hk e
 ·unfold zcw at e
  by_cases c:k=i
  ·rw [if_pos c]at e
   injection e with e;subst e;subst c;exact⟨b,by rw [zzq7,if_pos rfl,if_pos (by rw [h.size];exact hk)],hf,hb.setFar h.row⟩
  ·rw [if_neg c]at e
   obtain⟨b',h1,h2,h3⟩:=h.one k hk t e;exact⟨b',by rw [zzq7,if_neg (fun e=>c e.symm)];exact h1,h2,h3.setFar h.row⟩
theorem zeK (p:VSt->Prop): ∀{a:VSt} {r:List VSt},¬p a->((∃b∈r,p b)↔ ∃j,∃h:j<(a::r).length,p (a::r)[j]):=fun{a r} ha=>by
 constructor
 ·rintro⟨b,hb,hp⟩
  obtain⟨n,hn,e⟩:=List.getElem_of_mem hb;exact⟨n+1,by simpa using hn,by show p r[n];rw [e];exact hp⟩
 ·rintro⟨j,hj,hp⟩
  cases j with
  |zero=>exact absurd hp ha
  |succ j=>exact⟨r[j]'(by simpa using hj),zzM _,hp⟩
section
variable {l:List VSt} (h0:0<l.length)
include h0
theorem zhb (h: ∃j,∃h:j<l.length,l[j].frame≠l[0].frame):zbC l=181:=by
 cases l with
 |nil=>exact absurd h0 (Nat.lt_irrefl _)
 |cons a r=>
  rw [zdL,if_pos ((zeK (a:=a) (r:=r) (fun b=>b.frame≠a.frame) (by simp)).2 h)]
theorem zg8 (h1: ∀j (h:j<l.length),l[j].frame=l[0].frame) (h: ∃j,∃h:j<l.length,l[j].tries≠l[0].tries):zbC l=182:=by
 cases l with
 |nil=>exact absurd h0 (Nat.lt_irrefl _)
 |cons a r=>
  rw [zdL,if_neg (fun e=>by obtain⟨j,hj,e⟩:=(zeK (a:=a) (r:=r) (fun b=>b.frame≠a.frame) (by simp)).1 e;exact e (h1 j hj)),if_pos ((zeK (a:=a) (r:=r) (fun b=>b.tries≠a.tries) (by simp)).2 h)]
theorem zeL (h1: ∀j (h:j<l.length),l[j].frame=l[0].frame) (h2: ∀j (h:j<l.length),l[j].tries=l[0].tries) (h: ∃j,∃h:j<l.length,l[j].recv≠l[0].recv\/l[j].frm≠l[0].frm):zbC l=184:=by
 cases l with
 |nil=>exact absurd h0 (Nat.lt_irrefl _)
 |cons a r=>
  rw [zdL,if_neg (fun e=>by obtain⟨j,hj,e⟩:=(zeK (a:=a) (r:=r) (fun b=>b.frame≠a.frame) (by simp)).1 e;exact e (h1 j hj)),if_neg (fun e=>by obtain⟨j,hj,e⟩:=(zeK (a:=a) (r:=r) (fun b=>b.tries≠a.tries) (by simp)).1 e;exact e (h2 j hj)),
   if_pos ((zeK (a:=a) (r:=r) (fun b=>b.recv≠a.recv\/b.frm≠a.frm) (by simp)).2 h)]
theorem zlq (h1: ∀j (h:j<l.length),l[j].frame=l[0].frame) (h2: ∀j (h:j<l.length),l[j].tries=l[0].tries) (h3: ∀j (h:j<l.length),l[j].recv=l[0].recv/\l[j].frm=l[0].frm):zbC l=0:=by
 cases l with
 |nil=>exact absurd h0 (Nat.lt_irrefl _)
 |cons a r=>
  rw [zdL,if_neg (fun e=>by obtain⟨j,hj,e⟩:=(zeK (a:=a) (r:=r) (fun b=>b.frame≠a.frame) (by simp)).1 e;exact e (h1 j hj)),if_neg (fun e=>by obtain⟨j,hj,e⟩:=(zeK (a:=a) (r:=r) (fun b=>b.tries≠a.tries) (by simp)).1 e;exact e (h2 j hj)),
   if_neg (fun e=>by obtain⟨j,hj,e⟩:=(zeK (a:=a) (r:=r) (fun b=>b.recv≠a.recv\/b.frm≠a.frm) (by simp)).1 e;exact e.elim (fun e=>e (h3 j hj).1) (fun e=>e (h3 j hj).2))]
end
theorem zc6 {w wr:World} {q:Nat} {p:Addr} {v:Value} (hq:wr=w.drewN q) (h:w.cell? p=some v):wr.cell? p=some v:=by rw [hq];exact h
theorem zjH (l:List VSt) (ao:zzA) (c:Nat) (w:World) (h:LstAt w ao l) (hl: ∀s∈l,VLen s) (hn:l.length<=1000000000):
  Calls Tryz.prog 82 #[.slice ao l.length c] w fun e w'=>e= .returned (.int .i64 (zbC l))/\ ∃q,w'=w.drewN q:=by
 have H:=zzH h;have HL:=zzH hl;obtain⟨R,hR⟩: ∃R,R=zbC l:=⟨_,rfl⟩;rw [<-hR];have HR:=zzH hR;clear h hl hR;have hn1:(l.length:Int)<=1000000000:=by omega
 go_in;go_wp2_with fail;go_loopw [3] (fun v wr=> ∃k:Nat,1<=k/\(k<=l.length\/k=1)/\v= .int .i64 k/\Hid (∃q,wr=w.drewN q)/\Hid (∀j (hj:j<l.length),j<k->l[j].frame=(l[0]'(by omega)).frame)) (fun v _=>l.length+1-(intOf v).toNat)
 case atStart=>exact⟨1,zzL _,.inr rfl,rfl,zzH ⟨0,rfl⟩,zzH (fun j hj h1=>by(obtain rfl:j=0:=by omega);rfl)⟩
 case round=>
  obtain⟨k,hk1,hk2,rfl,HQ,HF⟩:=hrel;rename World=>wr
  by_cases hlt:k<l.length
  ·as_aux_lemma=>
   obtain⟨q,hq⟩:=HQ.out;have h0:0<l.length:=by omega
   obtain⟨b,xo,xc,yo,yc,to',tc,rfl,hb,e0,-,-,-,-,-,-,-⟩:=H.out.cells hlt;obtain⟨b',xo',xc',yo',yc',to2,tc',hbb,-,f0,-,-,-,-,-,-,-⟩:=H.out.cells h0;injection hbb with hbb;injection hbb with hbb;subst hbb;rw [Nat.zero_mul]at f0
   replace e0:=zc6 hq e0
   replace f0:=zc6 hq f0
   have hk0:(0:Int)<=(k:Int):=by omega
   have hkl:(k:Int)<(l.length:Int):=by omega
   have hl0:(0:Int)<(l.length:Int):=by omega
   by_cases he:l[k].frame=l[0].frame
   ·have u1:=zcQ he
    have HF2:Hid (∀j (hj:j<l.length),j<k+1->l[j].frame=(l[0]'(by omega)).frame):=zzH fun j hj h1=>by
     exact zz109
    generalize l[k].frame=x at e0 u1;generalize l[0].frame=y at f0 u1;have HQW:=zzH hq;clear he HF hq;exact zz107
   ·have HD:Hid (R=181):=zzH (by rw [HR.out];exact zhb h0 ⟨k,hlt,he⟩)
    have u1:=zch he;generalize l[k].frame=x at e0 u1;generalize l[0].frame=y at f0 u1;have HQW:=zzH hq;clear he HF hq;exact zz108
  ·as_aux_lemma=>
   have HF1:Hid (∀j (hj:j<l.length),l[j].frame=(l[0]'(by omega)).frame):=zzH fun j hj=>HF.out j hj (by omega)
   clear HF hk1 hk2;go_wp2_with fail;clear hlt;go_loopw [4] (fun v wr=> ∃k:Nat,1<=k/\(k<=l.length\/k=1)/\v= .int .i64 k/\Hid (∃q,wr=w.drewN q)/\Hid (∀j (hj:j<l.length),j<k->l[j].tries=(l[0]'(by omega)).tries)) (fun v _=>l.length+1-(intOf v).toNat)
   case atStart=>exact⟨1,zzL _,.inr rfl,rfl,HQ,zzH (fun j hj h1=>by(obtain rfl:j=0:=by omega);rfl)⟩
   case round=>
    clear HQ;obtain⟨k,hk1,hk2,rfl,HQ,HF⟩:=hrel;rename World=>wr
    by_cases hlt:k<l.length
    ·as_aux_lemma=>
     obtain⟨q,hq⟩:=HQ.out;have h0:0<l.length:=by omega
     obtain⟨b,xo,xc,yo,yc,to',tc,rfl,hb,-,-,-,e3,-,-,-,hL⟩:=H.out.cells hlt;obtain⟨b',xo',xc',yo',yc',to2,tc',hbb,-,-,-,-,f3,-,-,-,hL'⟩:=H.out.cells h0;injection hbb with hbb;injection hbb with hbb;subst hbb;rw [Nat.zero_mul,Nat.zero_add]at f3
     replace e3:=zc6 hq e3
     replace f3:=zc6 hq f3
     have hk0:(0:Int)<=(k:Int):=by omega
     have hkl:(k:Int)<(l.length:Int):=by omega
     have hl0:(0:Int)<(l.length:Int):=by omega
     have lk:=(HL.out _ (zzM hlt)).t;have l0:=(HL.out _ (zzM h0)).t
     have hE: ∀wx:World,wx.heap=w.heap->Calls Tryz.prog 20 #[.slice to' l[k].tries.length tc,.slice to2 l[0].tries.length tc'] wx fun e w'=>e= .returned (.bool (decide (l[k].tries=l[0].tries)))/\ ∃q,w'=wx.drewN q:=fun wx hx=>
      zdX l[k].tries l[0].tries to' to2 tc tc' wx (hL.t.heap hx) (hL'.t.heap hx) lk l0
     by_cases he:l[k].tries=l[0].tries
     ·rw [decide_eq_true he]at hE
      have HF2:Hid (∀j (hj:j<l.length),j<k+1->l[j].tries=(l[0]'(by omega)).tries):=zzH fun j hj h1=>by
       exact zz109
      generalize l[k].tries=x at e3 hE;generalize l[0].tries=y at f3 hE;have HE:=zzH hE;have hqh:wr.heap=w.heap:=by rw [hq];rfl
      have HQH:=zzH hqh;have HQW:=zzH hq;clear he HF hE hL hL' lk l0 hqh hq;go_wp2_with fail;go_quiet (exact Calls.quiet_of (HE.out _ HQH.out));go_wp2_with fail;refine⟨⟨k+1,by omega,.inl hlt,by go_num,zzH ?_,HF2⟩,by simp [intOf];omega⟩;rw [HQW.out];first|exact⟨_,rfl⟩|(simp only [World.drewN_drewN];exact⟨_,rfl⟩)
     ·rw [decide_eq_false he]at hE
      have HD:Hid (R=182):=zzH (by rw [HR.out];exact zg8 h0 (fun j hj=>HF1.out j hj) ⟨k,hlt,he⟩);generalize l[k].tries=x at e3 hE;generalize l[0].tries=y at f3 hE;have HE:=zzH hE;have hqh:wr.heap=w.heap:=by rw [hq];rfl
      have HQH:=zzH hqh;have HQW:=zzH hq;clear he HF hE hL hL' lk l0 hqh hq;go_wp2_with fail;go_quiet (exact Calls.quiet_of (HE.out _ HQH.out));go_wp2;go_ret;exact⟨zY HD.out.symm,by rw [HQW.out];first|exact⟨_,rfl⟩|(simp only [World.drewN_drewN];exact⟨_,rfl⟩)⟩
    ·as_aux_lemma=>
     have HF3:Hid (∀j (hj:j<l.length),l[j].tries=(l[0]'(by omega)).tries):=zzH fun j hj=>HF.out j hj (by omega)
     clear HF hk1 hk2;go_wp2_with fail;clear hlt;go_loopw [5] (fun v wr=> ∃k:Nat,1<=k/\(k<=l.length\/k=1)/\v= .int .i64 k/\Hid (∃q,wr=w.drewN q)/\Hid (∀j (hj:j<l.length),j<k->l[j].recv=(l[0]'(by omega)).recv/\l[j].frm=(l[0]'(by omega)).frm)) (fun v _=>l.length+1-(intOf v).toNat)
     case atStart=>exact⟨1,zzL _,.inr rfl,rfl,HQ,zzH (fun j hj h1=>by(obtain rfl:j=0:=by omega);exact⟨rfl,rfl⟩)⟩
     case round=>
      clear HQ;obtain⟨k,hk1,hk2,rfl,HQ,HF⟩:=hrel;rename World=>wr
      by_cases hlt:k<l.length
      ·as_aux_lemma=>
       obtain⟨q,hq⟩:=HQ.out;have h0:0<l.length:=by omega
       obtain⟨b,xo,xc,yo,yc,to',tc,rfl,hb,-,-,-,-,-,e5,e6,-⟩:=H.out.cells hlt;obtain⟨b',xo',xc',yo',yc',to2,tc',hbb,-,-,-,-,-,-,f5,f6,-⟩:=H.out.cells h0;injection hbb with hbb;injection hbb with hbb;subst hbb;rw [Nat.zero_mul,Nat.zero_add]at f5 f6
       replace e5:=zc6 hq e5
       replace f5:=zc6 hq f5
       replace e6:=zc6 hq e6
       replace f6:=zc6 hq f6
       have hk0:(0:Int)<=(k:Int):=by omega
       have hkl:(k:Int)<(l.length:Int):=by omega
       have hl0:(0:Int)<(l.length:Int):=by omega
       by_cases he:l[k].recv=l[0].recv
       ·have u1:=zcQ he
        by_cases he2:l[k].frm=l[0].frm
        ·have u2:=zcQ he2
         have HF2:Hid (∀j (hj:j<l.length),j<k+1->l[j].recv=(l[0]'(by omega)).recv/\l[j].frm=(l[0]'(by omega)).frm):=zzH fun j hj h1=>by
          rcases Nat.lt_or_ge j k with c|c
          ·exact HF.out j hj c
          ·obtain rfl:j=k:=by omega
           exact⟨he,he2⟩
         generalize l[k].recv=x at e5 u1;generalize l[0].recv=y at f5 u1;generalize l[k].frm=x2 at e6 u2;generalize l[0].frm=y2 at f6 u2;have HQW:=zzH hq;clear he he2 HF hq;exact zz107
        ·have u2:=zch he2
         have HD:Hid (R=184):=zzH (by rw [HR.out];exact zeL h0 (fun j hj=>HF1.out j hj) (fun j hj=>HF3.out j hj) ⟨k,hlt,.inr he2⟩);generalize l[k].recv=x at e5 u1;generalize l[0].recv=y at f5 u1;generalize l[k].frm=x2 at e6 u2;generalize l[0].frm=y2 at f6 u2;have HQW:=zzH hq;clear he he2 HF hq;exact zz108
       ·have u1:=zch he
        have HD:Hid (R=184):=zzH (by rw [HR.out];exact zeL h0 (fun j hj=>HF1.out j hj) (fun j hj=>HF3.out j hj) ⟨k,hlt,.inl he⟩);generalize l[k].recv=x at e5 u1;generalize l[0].recv=y at f5 u1;have HQW:=zzH hq;clear he HF hq e6 f6;exact zz108
      ·as_aux_lemma=>
       have HD:Hid (R=0):=zzH (by
        rw [HR.out];rcases Nat.eq_zero_or_pos l.length with h0|h0
        ·rw [List.eq_nil_of_length_eq_zero h0];rfl
        ·exact zlq h0 (fun j hj=>HF1.out j hj) (fun j hj=>HF3.out j hj) (fun j hj=>HF.out j hj (by omega)))
       clear HF hk1 hk2;go_wp2;go_ret;exact⟨zY HD.out.symm,HQ.out⟩
theorem zhD (u:RUnit) (lo fo go co:zzA) (lc fc gc cc:Nat) (s:VSt) (xo yo to':zzA) (xc yc tc:Nat) (a:RArg) (w:World) (hup:UP w u lo fo go co) (hs:StLs w s xo xc yo yc to' tc) (ho:StOk s) (ha:ArgOk u s a) (hl:zcU u):
  Calls Tryz.prog 85 #[.agg (zzu u lo lc fo fc go gc co cc),.agg (zzs s xo xc yo yc to' tc),.agg #[.int .i64 a.kind,.int .i64 a.n]] w
   fun e w'=>e= .returned (.tuple #[.int .i64 (zcj u s a),.int .i64 (zb2 s a)])/\Below w.heap.size w w':=by
 unfold zzs zzu;obtain⟨ak,an⟩:=a;obtain⟨gA,gB,gC,hb⟩:=zbR w (.cells #[.string u.mdl,.int .i64 u.vsn,.slice lo u.lits.length lc,.slice fo u.funcs.length fc,.slice go u.funs.length gc,.slice co u.code.length cc] 27) (.cells #[.int .i64 s.frame,.slice xo s.x.length xc,.slice yo s.y.length yc,.slice to' s.tries.length tc,.bool s.mt,.int .i64 s.recv,.int .i64 s.frm] 40) (.cells #[.int .i64 ak,.int .i64 an] 42);have hup1:=hup.below hb;have hL:=hs.below hb;have h1:=ha.x;have h2:=ha.y;have h3:=ha.l;simp only at h1 h2 h3;have hfr:=ho.fr;have hlx:=ho.len.x;have hly:=ho.len.y;have hy:=ho.y;have HT:Hid (zcj u s ⟨ak,an⟩=if ak=1 then zcB s.x an else if ak=2 then(if s.frame<=an then 0 else s.y.getD an.toNat 0)else ziH u an):=zzH rfl;have HE:Hid (zb2 s ⟨ak,an⟩=if ak=1 then(if zcB s.x an=0 then 186 else 0)else if ak=2 then(if s.frame<=an then 181 else 0)else 0):=zzH rfl;generalize zcj u s ⟨ak,an⟩=RT at *;generalize zb2 s ⟨ak,an⟩=RE at *;refine zzK4 gA gB gC hb fun HA HB HC HBB=>?_;clear hup hs ha ho gA gB gC hb;go_in;go_upto_region 1 with fail;generalize((w.alloc _).alloc _).alloc _=W at *;obtain⟨c0,c1,c2,c3,c4,c5⟩:=zV HA.out;obtain⟨d0,d1,d2,d3,d4,d5,d6⟩:=zN HB.out;have b0:=zw HC.out (k:=0) (by simp);have b1:=zw HC.out (k:=1) (by simp);simp only [zzX4]at b0 b1;by_cases k1:ak=1
 ·subst k1
  obtain⟨g1,g2⟩:=h1 rfl;have HR:=zzH (zji s.x xo xc an W hL.x (zzY hlx (by decide)) g1);have HT2:Hid (RT=zcB s.x an):=zzH (by rw [HT.out,if_pos rfl]);have HE2:Hid (RE=if zcB s.x an=0 then 186 else 0):=zzH (by rw [HE.out,if_pos rfl]);clear h1 h2 h3 hup1 hL HT HE;generalize zcB s.x an=t at *;by_cases z0:t=0
  ·have t0:(t==0)=true:=zzl.2 z0
   have HE3:Hid (RE=186):=zzH (by rw [HE2.out,if_pos z0]);have HT3:Hid (RT=0):=zzH (by rw [HT2.out,z0]);clear z0 HE2 HT2;go_wp2_with fail;refine HR.out.mono ?_;rintro e w1 ⟨rfl,rfl⟩;go_wp2;go_ret2;exact⟨zdp HT3.out.symm HE3.out.symm,HBB.out⟩
  ·have t0:(t==0)=false:=zzB.2 z0
   have HE3:Hid (RE=0):=zzH (by rw [HE2.out,if_neg z0]);clear z0 HE2;go_wp2_with fail;refine HR.out.mono ?_;rintro e w1 ⟨rfl,rfl⟩;go_wp2;go_ret2;exact⟨zdp HT2.out.symm HE3.out.symm,HBB.out⟩
 ·by_cases k2:ak=2
  ·subst k2
   obtain⟨g1,g2⟩:=h2 rfl;have HT2:Hid (RT=if s.frame<=an then 0 else s.y.getD an.toNat 0):=zzH (by rw [HT.out,if_neg (by decide),if_pos rfl]);have HE2:Hid (RE=if s.frame<=an then 181 else 0):=zzH (by rw [HE.out,if_neg (by decide),if_pos rfl]);clear h1 h2 h3 hup1 HT HE k1;by_cases z0:s.frame<=an
   ·have t0:decide (s.frame<=an)=true:=zzT z0
    have HT3:Hid (RT=0):=zzH (by rw [HT2.out,if_pos z0]);have HE3:Hid (RE=181):=zzH (by rw [HE2.out,if_pos z0]);clear HT2 HE2 z0 hy hL hlx hly;go_wp2;go_ret2;exact⟨zdp HT3.out.symm HE3.out.symm,HBB.out⟩
   ·have t0:decide (s.frame<=an)=false:=zzD z0
    have HT3:Hid (RT=s.y.getD an.toNat 0):=zzH (by rw [HT2.out,if_neg z0]);have HE3:Hid (RE=0):=zzH (by rw [HE2.out,if_neg z0]);obtain⟨n,rfl⟩:=zzJ g1;have hyl:=hy (by omega);have hn:n<s.y.length:=by omega
    obtain⟨yb,yf,rfl,hyb,z⟩:=hL.y.cell hn;have HT4:Hid (RT=s.y.getD n 0):=HT3;clear HT2 HE2 z0 hL HT3;generalize s.y.getD n 0=v at *;have hI0:(0:Int)<=(n:Int):=by omega
    have hI1:(n:Int)<(s.y.length:Int):=by omega
    go_wp2;go_ret2;exact⟨zdp HT4.out.symm HE3.out.symm,HBB.out⟩
  ·obtain⟨g1,g2⟩:=h3 k1 k2
   obtain⟨n,rfl⟩:=zzJ g1;have hn:n<u.lits.length:=by omega
   have HT2:Hid (RT=if u.lits[n].kind=9 then 2 else if u.lits[n].kind=7 then 3+(u.lits[n].items.length:Int)else 1):=zzH (by
    rw [HT.out,if_neg k1,if_neg k2];unfold ziH;rw [zzq11,zzq3 hn])
   have HE2:Hid (RE=0):=zzH (by rw [HE.out,if_neg k1,if_neg k2]);have t1:(ak==1)=false:=zzB.2 k1;have t2:(ak==2)=false:=zzB.2 k2;have hit:=hl _ (zzM hn);obtain⟨f,hf⟩:=ze5 hup1.lits;obtain⟨lb,loff,li,lic,rfl,hlb,q0,q1,q2,q3,q4,q5,q6,q7,q8,-,-⟩:=(hf.imp fun _ _ h=>h.succ).tm hn;clear h1 h2 h3 hup1 HT HE k1 k2 hf hL hy hlx hly hfr;generalize u.lits[n]=t at *;have hI0:(0:Int)<=(n:Int):=by omega
   have hI1:(n:Int)<(u.lits.length:Int):=by omega
   have HFIN:Hid (∀o:Obj,Below w.heap.size w (W.alloc o)):=zzH fun o=>HBB.out.alloc HBB.out.size o
   by_cases d9:t.kind=9
   ·have t9:(t.kind==9)=true:=zzl.2 d9
    have HT3:Hid (RT=2):=zzH (by rw [HT2.out,if_pos d9]);clear HT2 d9;go_wp2;go_ret2;exact⟨zdp HT3.out.symm HE2.out.symm,HFIN.out _⟩
   ·have t9:(t.kind==9)=false:=zzB.2 d9
    by_cases d7:t.kind=7
    ·have t7:(t.kind==7)=true:=zzl.2 d7
     have HT3:Hid (RT=3+(t.items.length:Int)):=zzH (by rw [HT2.out,if_neg d9,if_pos d7]);have hw:IntKind.i64.wrap (3+(t.items.length:Int))=3+(t.items.length:Int):=by rw [zzq2];omega
     exact zz111
    ·have t7:(t.kind==7)=false:=zzB.2 d7
     have HT3:Hid (RT=1):=zzH (by rw [HT2.out,if_neg d9,if_neg d7]);exact zz111
end Go.Proofs.YthajedcbgnloeaaGreatDoor
