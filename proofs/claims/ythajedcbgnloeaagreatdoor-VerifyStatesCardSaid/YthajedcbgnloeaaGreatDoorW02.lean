import Derived.Test.YthajedcbgnloeaaGreatDoorW01
namespace Go.Proofs.YthajedcbgnloeaaGreatDoor
open Go.RowKit
set_option linter.unusedVariables false
set_option linter.unusedSimpArgs false
set_option maxRecDepth 100000
set_option maxHeartbeats 0
def opTwo:List (List UInt8):=[[43],[42],[100,105,118],[114,101,109],[98,97,110,100],[98,111,114],[98,120,111,114],[98,115,108],[98,115,114],[97,110,100],[111,114],[120,111,114],[61,58,61],[61,47,61],[60],[61,60],[62],[62,61],[43,43]]
def zQ (s:ByteArray) (n:Int):Bool:=
 if s.toList== [45]then n==1||n==2 else if s.toList== [98,110,111,116]||s.toList== [110,111,116]then n==1 else if opTwo.any (fun x=>s.toList==x)then n==2 else false
theorem zfV (s:ByteArray) (n:Int) (w:World):Calls Tryz.prog 50 #[.string s,.int .i64 n] w fun e w'=>e= .returned (.bool (zQ s n))/\w=w':=by
 cases t0:(s.toList== [45])with
 |true=>
  have E:Hid (zQ s n=(n==1||n==2)):=zzH (by unfold zQ;rw [t0];rfl)
  cases q1:(n==1)with
  |true=>
   rw [q1]at E;exact zz41
  |false=>
   rw [q1]at E;exact zz41
 |false=>
  cases t1:(s.toList== [98,110,111,116])with
  |true=>
    have E:Hid (zQ s n=(n==1)):=zzH (by unfold zQ;rw [t0,t1];rfl);exact zz41
  |false=>
  cases t2:(s.toList== [110,111,116])with
  |true=>
   have E:Hid (zQ s n=(n==1)):=zzH (by unfold zQ;rw [t0,t1,t2];rfl);exact zz41
  |false=>
   cases t3:(s.toList== [43])with
   |true=>
     have E:Hid (zQ s n=(n==2)):=zzH (by unfold zQ opTwo;simp only [List.any_cons,List.any_nil,t0,t1,t2,t3,zzq9,zzq16,zzq14,zzq13,if_true];rfl);exact zz41
   |false=>
   cases t4:(s.toList== [42])with
   |true=>
    have E:Hid (zQ s n=(n==2)):=zzH (by unfold zQ opTwo;simp only [List.any_cons,List.any_nil,t0,t1,t2,t3,t4,zzq9,zzq16,zzq14,zzq13,if_true];rfl);exact zz41
   |false=>
    cases t5:(s.toList== [100,105,118])with
    |true=>
      have E:Hid (zQ s n=(n==2)):=zzH (by unfold zQ opTwo;simp only [List.any_cons,List.any_nil,t0,t1,t2,t3,t4,t5,zzq9,zzq16,zzq14,zzq13,if_true];rfl);exact zz41
    |false=>
    cases t6:(s.toList== [114,101,109])with
    |true=>
     have E:Hid (zQ s n=(n==2)):=zzH (by unfold zQ opTwo;simp only [List.any_cons,List.any_nil,t0,t1,t2,t3,t4,t5,t6,zzq9,zzq16,zzq14,zzq13,if_true];rfl);exact zz41
    |false=>
     cases t7:(s.toList== [98,97,110,100])with
     |true=>
       have E:Hid (zQ s n=(n==2)):=zzH (by unfold zQ opTwo;simp only [List.any_cons,List.any_nil,t0,t1,t2,t3,t4,t5,t6,t7,zzq9,zzq16,zzq14,zzq13,if_true];rfl);exact zz41
     |false=>
     cases t8:(s.toList== [98,111,114])with
     |true=>
      have E:Hid (zQ s n=(n==2)):=zzH (by unfold zQ opTwo;simp only [List.any_cons,List.any_nil,t0,t1,t2,t3,t4,t5,t6,t7,t8,zzq9,zzq16,zzq14,zzq13,if_true];rfl);exact zz41
     |false=>
      cases t9:(s.toList== [98,120,111,114])with
      |true=>
        have E:Hid (zQ s n=(n==2)):=zzH (by unfold zQ opTwo;simp only [List.any_cons,List.any_nil,t0,t1,t2,t3,t4,t5,t6,t7,t8,t9,zzq9,zzq16,zzq14,zzq13,if_true];rfl);exact zz41
      |false=>
      cases t10:(s.toList== [98,115,108])with
      |true=>
       have E:Hid (zQ s n=(n==2)):=zzH (by unfold zQ opTwo;simp only [List.any_cons,List.any_nil,t0,t1,t2,t3,t4,t5,t6,t7,t8,t9,t10,zzq9,zzq16,zzq14,zzq13,if_true];rfl);exact zz41
      |false=>
       cases t11:(s.toList== [98,115,114])with
       |true=>
         have E:Hid (zQ s n=(n==2)):=zzH (by unfold zQ opTwo;simp only [List.any_cons,List.any_nil,t0,t1,t2,t3,t4,t5,t6,t7,t8,t9,t10,t11,zzq9,zzq16,zzq14,zzq13,if_true];rfl);exact zz41
       |false=>
       cases t12:(s.toList== [97,110,100])with
       |true=>
        have E:Hid (zQ s n=(n==2)):=zzH (by unfold zQ opTwo;simp only [List.any_cons,List.any_nil,t0,t1,t2,t3,t4,t5,t6,t7,t8,t9,t10,t11,t12,zzq9,zzq16,zzq14,zzq13,if_true];rfl);exact zz41
       |false=>
        cases t13:(s.toList== [111,114])with
        |true=>
          have E:Hid (zQ s n=(n==2)):=zzH (by unfold zQ opTwo;simp only [List.any_cons,List.any_nil,t0,t1,t2,t3,t4,t5,t6,t7,t8,t9,t10,t11,t12,t13,zzq9,zzq16,zzq14,zzq13,if_true];rfl);exact zz41
        |false=>
        cases t14:(s.toList== [120,111,114])with
        |true=>
         have E:Hid (zQ s n=(n==2)):=zzH (by unfold zQ opTwo;simp only [List.any_cons,List.any_nil,t0,t1,t2,t3,t4,t5,t6,t7,t8,t9,t10,t11,t12,t13,t14,zzq9,zzq16,zzq14,zzq13,if_true];rfl);exact zz41
        |false=>
         cases t15:(s.toList== [61,58,61])with
         |true=>
           have E:Hid (zQ s n=(n==2)):=zzH (by unfold zQ opTwo;simp only [List.any_cons,List.any_nil,t0,t1,t2,t3,t4,t5,t6,t7,t8,t9,t10,t11,t12,t13,t14,t15,zzq9,zzq16,zzq14,zzq13,if_true];rfl);exact zz41
         |false=>
         cases t16:(s.toList== [61,47,61])with
         |true=>
          have E:Hid (zQ s n=(n==2)):=zzH (by unfold zQ opTwo;simp only [List.any_cons,List.any_nil,t0,t1,t2,t3,t4,t5,t6,t7,t8,t9,t10,t11,t12,t13,t14,t15,t16,zzq9,zzq16,zzq14,zzq13,if_true];rfl);exact zz41
         |false=>
          cases t17:(s.toList== [60])with
          |true=>
            have E:Hid (zQ s n=(n==2)):=zzH (by unfold zQ opTwo;simp only [List.any_cons,List.any_nil,t0,t1,t2,t3,t4,t5,t6,t7,t8,t9,t10,t11,t12,t13,t14,t15,t16,t17,zzq9,zzq16,zzq14,zzq13,if_true];rfl);exact zz41
          |false=>
          cases t18:(s.toList== [61,60])with
          |true=>
           have E:Hid (zQ s n=(n==2)):=zzH (by unfold zQ opTwo;simp only [List.any_cons,List.any_nil,t0,t1,t2,t3,t4,t5,t6,t7,t8,t9,t10,t11,t12,t13,t14,t15,t16,t17,t18,zzq9,zzq16,zzq14,zzq13,if_true];rfl);exact zz41
          |false=>
           cases t19:(s.toList== [62])with
           |true=>
             have E:Hid (zQ s n=(n==2)):=zzH (by unfold zQ opTwo;simp only [List.any_cons,List.any_nil,t0,t1,t2,t3,t4,t5,t6,t7,t8,t9,t10,t11,t12,t13,t14,t15,t16,t17,t18,t19,zzq9,zzq16,zzq14,zzq13,if_true];rfl);exact zz41
           |false=>
           cases t20:(s.toList== [62,61])with
           |true=>
            have E:Hid (zQ s n=(n==2)):=zzH (by unfold zQ opTwo;simp only [List.any_cons,List.any_nil,t0,t1,t2,t3,t4,t5,t6,t7,t8,t9,t10,t11,t12,t13,t14,t15,t16,t17,t18,t19,t20,zzq9,zzq16,zzq14,zzq13,if_true];rfl);exact zz41
           |false=>
            cases t21:(s.toList== [43,43])with
            |true=>
              have E:Hid (zQ s n=(n==2)):=zzH (by unfold zQ opTwo;simp only [List.any_cons,List.any_nil,t0,t1,t2,t3,t4,t5,t6,t7,t8,t9,t10,t11,t12,t13,t14,t15,t16,t17,t18,t19,t20,t21,zzq9,zzq16,zzq14,zzq13,if_true];rfl);exact zz41
            |false=>
            have E:Hid (zQ s n=false):=zzH (by unfold zQ opTwo;simp only [List.any_cons,List.any_nil,t0,t1,t2,t3,t4,t5,t6,t7,t8,t9,t10,t11,t12,t13,t14,t15,t16,t17,t18,t19,t20,t21,zzq9];rfl);exact zz41
section
variable {α:Type} {w w':World} {size:Nat} {R R':List Value->α->Prop} {b off:Nat}
def zfh (w:World) (size:Nat) (R:List Value->α->Prop) (b off:Nat) (l:List α):Prop:= ∀j (h:j<l.length),∃cs:List Value,cs.length=size/\(∀i,i<size->w.cell? ⟨b,off+j*size+i,none⟩=cs[i]?)/\R cs l[j]
theorem zgB: ∀{l:List α} {off:Nat},zfh w size R b off l->(∀cs a,R cs a-> ∀v∈cs,v.oneCell'=true)-> ∃vs:List Value,vs.length=l.length*size/\(∀k,k<l.length*size->w.cell? ⟨b,off+k,none⟩=vs[k]?)/\ ∀v∈vs,v.oneCell'=true
 |[],off,h,_=>⟨[],by simp,fun k hk=>by simp at hk,fun v hv=>by cases hv⟩
 |a::l,off,h,hR=>by
  obtain⟨cs,hl,hc,hr⟩:=h 0 (by simp)
  have h':zfh w size R b (off+size) l:=fun j hj=>by
   obtain⟨cs',g1,g2,g3⟩:=h (j+1) (by simpa using hj);refine⟨cs',g1,fun i hi=>?_,by simpa using g3⟩;rw [<-g2 i hi,show off+size+j*size+i=off+(j+1)*size+i by rw [Nat.add_mul,Nat.one_mul];omega]
  obtain⟨vs,e1,e2,e3⟩:=zgB h' hR;refine⟨cs++vs,by rw [zzq12,hl,e1,zzq18,Nat.add_mul,Nat.one_mul];omega,fun k hk=>?_,fun v hv=>(zzk.1 hv).elim (hR _ _ hr v) (e3 v)⟩;by_cases c:k<size
  ·rw [List.getElem?_append_left (by omega),<-hc k c,Nat.zero_mul,Nat.add_zero]
  ·rw [List.getElem?_append_right (by omega),hl,<-e2 (k-size) (by rw [zzq18,Nat.add_mul,Nat.one_mul]at hk;omega),show off+size+(k-size)=off+k by omega]
theorem znl {b' off':Nat} {l:List α} {vs:List Value} (h:zfh w size R b off l) (h1: ∀k,k<l.length*size->w.cell? ⟨b,off+k,none⟩=vs[k]?) (h2: ∀k,k<l.length*size->w'.cell? ⟨b',off'+k,none⟩=vs[k]?) (hR: ∀cs a,R cs a->R' cs a):zfh w' size R' b' off' l:=fun j hj=>by
 obtain⟨cs,g1,g2,g3⟩:=h j hj;refine⟨cs,g1,fun i hi=>?_,hR _ _ g3⟩
 have hk:j*size+i<l.length*size:=by
  have:(j+1)*size<=l.length*size:=Nat.mul_le_mul_right _ hj;rw [Nat.add_mul,Nat.one_mul]at this;omega
 rw [<-g2 i hi,Nat.add_assoc,h2 _ hk,<-h1 _ hk,Nat.add_assoc]
theorem SlAt.rows {ao:zzA} {l:List α} (h:SlAt w size R ao l) (hl:l≠ []): ∃b off,ao=some ⟨b,off,none⟩/\b<w.heap.size/\zfh w size R b off l:=by
 rcases h with h|h
 ·exact absurd h hl
 ·exact h
theorem zkO {B g n cap:Nat} {e:TypeId} {xs:List Value} (h:w.ownsRow B e size (.slice (some ⟨g,0,none⟩) n cap) n xs):g<w.heap.size/\B<=g/\n<=cap/\ ∀k,k<n*size->w.cell? ⟨g,0+k,none⟩=xs[k]?:=by
 rcases h.2 with⟨h0,_⟩|⟨g',cap',cur,e1,hB,hg,h1,h2,h3,h4⟩
 ·cases h0
 ·injection e1 with e1 e2 e3
  injection e1 with e1;injection e1 with e1;subst e1;subst e3;refine⟨zd hg,hB,h1,fun k hk=>?_⟩;rw [zzq0 _ _ _ _ _ _ hg,<-h4,List.getElem?_take_of_lt (by omega),Array.getElem?_toList,Nat.zero_add]
end
theorem zoy {w:World}: ∀cs a,InsR w cs a-> ∀v∈cs,v.oneCell'=true:=fun cs a ⟨⟨so,sc,co,cc,go,gc,h,_⟩,_⟩ v hv=>by subst h;simp at hv;rcases hv with rfl|rfl|rfl|rfl|rfl|rfl|rfl|rfl|rfl|rfl<;>rfl
def zly:ByteArray:=⟨#[109]⟩
def zq0:ByteArray:=⟨#[102]⟩
def exU (l:List RIns):RUnit:=⟨zly,1,[],[⟨zq0,1,true,0⟩],[],l⟩
theorem zgR (n:Int) (w:World):Calls Tryz.prog 13 #[.int .i64 n] w fun e w'=>e= .returned (.agg #[.int .i64 1,.int .i64 n])/\Below w.heap.size w w':=by
 go_in;go_wp2_with fail;refine zzj (results_cell_row rfl _ _ w.heap.size _ _ _ _ rfl (zzF _ _) Tryz.underlying42 rfl (by kernel_rfl)) rfl ?_;exact⟨rfl,zzE _ _⟩
def RwsIn {α:Type} (size:Nat) (R:List Value->α->Prop):List Value->List α->Prop
 |xs,[]=>xs= []
 |xs,t::ts=> ∃cs ys,xs=cs++ys/\cs.length=size/\R cs t/\RwsIn size R ys ts
theorem RwsIn.get {α:Type} {size:Nat} {R:List Value->α->Prop}: ∀{ts:List α} {xs:List Value},RwsIn size R xs ts-> ∀j (h:j<ts.length),∃cs:List Value,cs.length=size/\(∀i,i<size->xs[j*size+i]?=cs[i]?)/\R cs ts[j]
 |[],_,_,j,h=>absurd h (zzC _)
 |t::ts,_,⟨cs,ys,a,b,c,d⟩,0,_=>⟨cs,b,fun i hi=>by rw [a,Nat.zero_mul,Nat.zero_add,List.getElem?_append_left (by omega)],c⟩
 |t::ts,_,⟨cs,ys,a,b,c,d⟩,j+1,h=>by
  obtain⟨cs',h1,h2,h3⟩:=RwsIn.get d j (by simpa using h);refine⟨cs',h1,fun i hi=>?_,h3⟩;rw [a,List.getElem?_append_right (by rw [b,Nat.succ_mul];omega),<-h2 i hi];congr 1;rw [b,Nat.succ_mul];omega
theorem zhF {α:Type} {w:World} {size b:Nat} {T:TypeId} {R:List Value->α->Prop} {xs:List Value} {l:List α} (h:w.heap[b]?=some (.cells xs.toArray T (0,0))) (hr:RwsIn size R xs l):SlAt w size R (some ⟨b,0,none⟩) l:=
 .inr ⟨b,0,rfl,zd h,fun j hj=>by
  obtain⟨cs,h1,h2,h3⟩:=hr.get j hj;exact⟨cs,h1,fun i hi=>by rw [zzq0 _ _ _ _ _ _ h,Nat.zero_add,<-h2 i hi,List.getElem?_toArray],h3⟩⟩
theorem zoD:(Tryz.prog.info? 47).map (fun i=>(i.zero,i.size,i.bytes))=some (some (.agg #[.int .i64 0,.int .i64 0,.int .i64 0,.slice none 0 0,.int .i64 0,.int .i64 0,.int .i64 0,.string ⟨#[]⟩,.slice none 0 0,.slice none 0 0]),10,136):=by kernel_rfl
theorem zbR (w:World) (o0 o1 o2:Obj):(((w.alloc o0).alloc o1).alloc o2).heap[w.heap.size]?=some o0/\(((w.alloc o0).alloc o1).alloc o2).heap[w.heap.size+1]?=some o1 /\
  (((w.alloc o0).alloc o1).alloc o2).heap[w.heap.size+1+1]?=some o2/\Below w.heap.size w (((w.alloc o0).alloc o1).alloc o2):=by
 have s: ∀(x:World) (o:Obj),(x.alloc o).heap.size=x.heap.size+1:=fun x o=>by simp
 have n: ∀(x:World) (o:Obj),(x.alloc o).heap[x.heap.size]?=some o:=fun x o=>zzF x o
 have k: ∀(x:World) (o:Obj) (j:Nat) (p:Obj),x.heap[j]?=some p->(x.alloc o).heap[j]?=some p:=fun x o j p h=>(Below.heap_alloc x o j (zd h)).trans h
 have e1:=n (w.alloc o0) o1;rw [s]at e1;have e2:=n ((w.alloc o0).alloc o1) o2;rw [s,s]at e2;exact⟨k _ _ _ _ (k _ _ _ _ (n w o0)),k _ _ _ _ e1,e2,((zzE _ _).alloc (by rw [s];omega) _).alloc (by rw [s,s];omega) _⟩
theorem zmi {w:World} {g:Nat} (h:w.heap[g]?=some (.cells #[] 47 (0,0))):w.ownsRow 0 47 10 (.slice (some ⟨g,0,none⟩) 0 0) 0 []:=
 ⟨by simp,.inr ⟨g,0,#[],rfl,zzZ _,h,zzL _,zzZ _,by simp,by simp⟩⟩
theorem zV {w:World} {b:Nat} {T:TypeId} {v0 v1 v2 v3 v4 v5:Value} (h:w.heap[b]?=some (.cells #[v0,v1,v2,v3,v4,v5] T (0,0))):
  w.cell? ⟨b,0,none⟩=some v0/\w.cell? ⟨b,1,none⟩=some v1/\w.cell? ⟨b,2,none⟩=some v2/\w.cell? ⟨b,3,none⟩=some v3/\w.cell? ⟨b,4,none⟩=some v4/\w.cell? ⟨b,5,none⟩=some v5:=
 ⟨zzq0 w b 0 _ _ _ h,zzq0 w b 1 _ _ _ h,zzq0 w b 2 _ _ _ h,zzq0 w b 3 _ _ _ h,zzq0 w b 4 _ _ _ h,zzq0 w b 5 _ _ _ h⟩
theorem zqk {w:World} {b:Nat} {T:TypeId} {v0 v1 v2 v3 v4 v5:Value} (h:w.heap[b]?=some (.cells #[v0,v1,v2,v3,v4,v5] T (0,0))) (u0 u1 u2 u3 u4 u5:Value):
  ((((((w.setCell ⟨b,0,none⟩ u0).setCell ⟨b,1,none⟩ u1).setCell ⟨b,2,none⟩ u2).setCell ⟨b,3,none⟩ u3).setCell ⟨b,4,none⟩ u4).setCell ⟨b,5,none⟩ u5).heap[b]?=some (.cells #[u0,u1,u2,u3,u4,u5] T (0,0)):=by
 have a0:(World.setCell w ⟨b,0,none⟩ u0).heap[b]?=_:=zzS _ b 0 _ _ _ h
 have a1:(World.setCell _ ⟨b,1,none⟩ u1).heap[b]?=_:=zzS _ b 1 _ _ _ a0
 have a2:(World.setCell _ ⟨b,2,none⟩ u2).heap[b]?=_:=zzS _ b 2 _ _ _ a1
 have a3:(World.setCell _ ⟨b,3,none⟩ u3).heap[b]?=_:=zzS _ b 3 _ _ _ a2
 have a4:(World.setCell _ ⟨b,4,none⟩ u4).heap[b]?=_:=zzS _ b 4 _ _ _ a3
 exact zzS _ b 5 _ _ _ a4
theorem zp1 {B:Nat} {w0 w:World} {b:Nat} (hb:Below B w0 w) (h:B<=b) (u0 u1 u2 u3 u4 u5:Value):
  Below B w0 ((((((w.setCell ⟨b,0,none⟩ u0).setCell ⟨b,1,none⟩ u1).setCell ⟨b,2,none⟩ u2).setCell ⟨b,3,none⟩ u3).setCell ⟨b,4,none⟩ u4).setCell ⟨b,5,none⟩ u5):=
 (((((hb.setCell (p:=⟨b,0,none⟩) h u0).setCell (p:=⟨b,1,none⟩) h u1).setCell (p:=⟨b,2,none⟩) h u2).setCell (p:=⟨b,3,none⟩) h u3).setCell (p:=⟨b,4,none⟩) h u4).setCell (p:=⟨b,5,none⟩) h u5
theorem zh4 {w:World} {b q:Nat} (h:q≠b) (u0 u1 u2 u3 u4 u5:Value):
  ((((((w.setCell ⟨b,0,none⟩ u0).setCell ⟨b,1,none⟩ u1).setCell ⟨b,2,none⟩ u2).setCell ⟨b,3,none⟩ u3).setCell ⟨b,4,none⟩ u4).setCell ⟨b,5,none⟩ u5).heap[q]?=w.heap[q]?:=by
 have k: ∀(x:World) (i:Nat) (u:Value),(x.setCell ⟨b,i,none⟩ u).heap[q]?=x.heap[q]?:=fun x i u=>zzq6 _ _ _ _ h
 rw [k,k,k,k,k,k]
def zqV (l:List RIns) (n:Nat) (e:Ending) (w':World):Prop:=
 ∃fo fc co cc,e= .returned (.agg #[.string zly,.int .i64 1,.slice none 0 0,.slice fo 1 fc,.slice none 0 0,.slice co n cc])/\UP w' (exU l) none fo none co
def zqL (w:World) (l:List RIns) (n:Nat) (R:List Value->RIns->Prop) (e:Ending) (w':World):Prop:=
 ∃f fc g cc,e= .returned (.agg #[.string zly,.int .i64 1,.slice none 0 0,.slice (some ⟨f,0,none⟩) 1 fc,.slice none 0 0,.slice (some ⟨g,0,none⟩) n cc])/\w.heap.size<=f/\w.heap.size<=g/\SlAt w' 4 zfp (some ⟨f,0,none⟩) (exU l).funcs/\SlAt w' 10 R (some ⟨g,0,none⟩) l
theorem zqF {w:World} {l:List RIns} {fo co:zzA} (h1:SlAt w 4 zfp fo (exU l).funcs) (h2:SlAt w 10 (InsR w) co l) (h3:l.length<=100000):UP w (exU l) none fo none co:=
 ⟨.inl rfl,h1,.inl rfl,h2,by show(1:Nat)<=_;decide,by show I64 1;unfold I64;decide,by show(0:Nat)<=_;decide,by show(1:Nat)<=_;decide,by show(0:Nat)<=_;decide,by show l.length<=_;omega⟩
theorem zod (R:List Value->RIns->Prop) (hone: ∀cs a,R cs a-> ∀v∈cs,v.oneCell'=true) (l:List RIns) (n:Nat) (hn:n=l.length) (co:zzA) (cc:Nat) (w:World) (h:SlAt w 10 R co l) (h0:l≠ []) (h1:l.length<=100000):
  Calls Tryz.prog 14 #[.slice co n cc] w fun e w'=>zqL w l n R e w'/\Below w.heap.size w w':=by
 obtain⟨b,off,rfl,hb,hr⟩:=h.rows h0;obtain⟨vs,e1,e2,e3⟩:=zgB hr hone;obtain⟨i0,hi,hz0,hz1,hz2⟩:=info_parts zoD;obtain⟨hZ,hF,hE,hB3⟩:=zbR w (.cells #[.string ⟨#[]⟩,.int .i64 0,.slice none 0 0,.slice none 0 0,.slice none 0 0,.slice none 0 0] 27) (.cells #[.string ⟨#[102]⟩,.int .i64 1,.bool true,.int .i64 0] 70) (.cells #[] 47);have HOWN:=zzH (zmi hE)
 have HNEWS:Hid (∀j u,vs[j]?=some u->(((w.alloc (.cells #[.string ⟨#[]⟩,.int .i64 0,.slice none 0 0,.slice none 0 0,.slice none 0 0,.slice none 0 0] 27)).alloc (.cells #[.string ⟨#[102]⟩,.int .i64 1,.bool true,.int .i64 0] 70)).alloc (.cells #[] 47)).cell? ((⟨b,off,none⟩:Addr).add j)=some u):=zzH fun j u hj=>by
  have hjl:j<l.length*10:=by rw [<-e1];exact(List.getElem?_eq_some_iff.1 hj).1
  rw [<-hj,<-e2 j hjl,show(⟨b,off,none⟩:Addr).add j=⟨b,off+j,none⟩by simp [Addr.add]];exact hB3.cell (p:=⟨b,off+j,none⟩) hb
 have hpos:0<n:=by rw [hn];exact List.length_pos_iff.2 h0
 have h63:0+n<=maxLen:=by unfold maxLen;omega
 have hby:(0+n)*136<=140737488355328:=by omega
 refine zzK6 h63 hby hpos hB3 hZ hF fun H63 HBY HPOS HB3 HZ HF=>?_;have HR:Hid (∀w' g,(∀k,k<n*10->w'.cell? ⟨g,0+k,none⟩=vs[k]?)->Below w.heap.size w w'->g<w'.heap.size->SlAt w' 10 R (some ⟨g,0,none⟩) l):=zzH fun w' g hk hbw hg=>.inr ⟨g,0,rfl,hg,znl hr e2 (by rw [<-hn];exact hk) (fun cs a h=>h)⟩
 rw [<-hn]at e1;refine zzK3 e1 e3 hn fun HL H1 HN=>?_;clear hr e1 e2 e3 h h0 h1 hone hb hE hF hZ hB3 h63 hby hpos hn;go_in;go_wp2_with (at_builtin;refine wpList_append_lies _ rfl (.tmp 5) (.tmp 6) 25 rfl 0 47 i0 _ 10 136 Tryz.underlying25 hi hz0 hz1 hz2 rfl (by decide) _ 0 _ rfl HOWN.out ⟨b,off,none⟩ n cc vs rfl HL.out HNEWS.out H1.out HPOS.out H63.out HBY.out (zzZ _) _ rfl ?_;intro g cap w3 ho3 hg3 hat hlt3;rw [Nat.zero_add]at ho3 ⊢;rw [List.nil_append]at ho3;have hx3:=(hg3.block w.heap.size (zd HZ.out) (fun e=>by have:w.heap.size=w.heap.size+1+1:=zzf e;omega)).trans HZ.out;obtain⟨p0,p1,p2,p3,p4,p5⟩:=zV hx3;have z0:=zzq5 w3 w.heap.size 0 _ _ hx3;have z1:=zzq5 w3 w.heap.size 1 _ _ hx3;have z2:=zzq5 w3 w.heap.size 2 _ _ hx3;have z3:=zzq5 w3 w.heap.size 3 _ _ hx3;have z4:=zzq5 w3 w.heap.size 4 _ _ hx3;have z5:=zzq5 w3 w.heap.size 5 _ _ hx3;have HX3:=zzH hx3);have hx3:=HX3.out;refine zzj (results_cell_row rfl _ _ w.heap.size _ _ _ _ rfl (zqk hx3 _ _ _ _ _ _) Tryz.underlying27 rfl (by kernel_rfl)) rfl ?_;have hs3:=HB3.out.size;have hgne:g≠w.heap.size:=hat.elim (fun e=>by have:w.heap.size+1+1=g:=zzf e;omega) (fun e=>by rw [e];simp;omega);have hbw:=zp1 (b:=w.heap.size) (HB3.out.grown hg3 hs3 (fun k e=>by have:w.heap.size+1+1=k:=zzf e;omega)) (zzL _) (.string ⟨#[109]⟩) (.int .i64 1) (.slice none 0 0) (.slice (some ⟨w.heap.size+1,0,none⟩) 1 1) (.slice none 0 0) (.slice (some ⟨g,0,none⟩) n cap);have hf:=(zh4 (b:=w.heap.size) (q:=w.heap.size+1) (by omega) (.string ⟨#[109]⟩) (.int .i64 1) (.slice none 0 0) (.slice (some ⟨w.heap.size+1,0,none⟩) 1 1) (.slice none 0 0) (.slice (some ⟨g,0,none⟩) n cap)).trans ((hg3.block (w.heap.size+1) (zd HF.out) (fun e=>by have:w.heap.size+1=w.heap.size+1+1:=zzf e;omega)).trans HF.out);have hc:=(zkO ho3).2.2.2;have hgw:w.heap.size<=g:=hat.elim (fun e=>by have:w.heap.size+1+1=g:=zzf e;omega) (fun e=>by rw [e];simp;omega);refine⟨⟨w.heap.size+1,1,g,cap,rfl,Nat.le_succ _,hgw,.inr ⟨w.heap.size+1,0,rfl,zd hf,fun j hj=>?_⟩,HR.out _ g (fun k hk=>?_) hbw (by simpa using hlt3)⟩,hbw⟩
 ·obtain rfl:j=0:=by have hj:j<1:=hj;omega
  refine⟨[.string ⟨#[102]⟩,.int .i64 1,.bool true,.int .i64 0],rfl,fun k hk=>?_,rfl,by show(1:Nat)<=_;unfold maxLen;decide,by show I64 1;unfold I64;decide,by show I64 0;unfold I64;decide⟩;rw [zzq0 _ _ _ _ _ _ hf,show 0+0*4+k=k by omega];simp
 ·rw [<-hc k hk]
  exact World.cell?_of_block (zh4 hgne _ _ _ _ _ _)
theorem zgK (l:List RIns) (n:Nat) (hn:n=l.length) (co:zzA) (cc:Nat) (w:World) (h:SlAt w 10 (InsR w) co l) (h0:l≠ []) (h1:l.length<=100000):
  Calls Tryz.prog 14 #[.slice co n cc] w fun e w'=>zqV l n e w'/\Below w.heap.size w w':=
 (zod (InsR w) zoy l n hn co cc w h h0 h1).mono fun e w' ⟨⟨f,fc,g,cc',a1,_,_,a4,a5⟩,hb⟩=>
  ⟨⟨some ⟨f,0,none⟩,fc,some ⟨g,0,none⟩,cc',a1,zqF a4 (by rcases a5 with a5|⟨b,off,b1,b2,b3⟩;exact .inl a5;exact .inr ⟨b,off,b1,b2,fun j hj=>by obtain⟨cs,c1,c2,c3⟩:=b3 j hj;exact⟨cs,c1,c2,c3.below hb⟩⟩) h1⟩,hb⟩
def kI (op dk dn:Int) (src:List RArg) (to' n:Int):RIns:=⟨op,⟨dk,dn⟩,src,to',n,0,⟨#[]⟩,[],[]⟩
def kR (op dk dn:Int) (so:Option Addr) (sn:Nat) (to' n:Int):List Value:=[.int .i64 op,.int .i64 dk,.int .i64 dn,.slice so sn sn,.int .i64 to',.int .i64 n,.int .i64 0,.string ⟨#[]⟩,.slice none 0 0,.slice none 0 0]
def zdD (n:Int):Bool:=decide (-1000<=n/\n<=1000)
theorem zcc {n:Int} (h:zdD n=true):I64 n:=by have:=zza h;unfold I64;omega
theorem zgq (w:World) (op dk dn to' n:Int) (h:(zdD op&&(zdD dk&&(zdD dn&&(zdD to'&&zdD n))))=true):InsR w (kR op dk dn none 0 to' n) (kI op dk dn [] to' n):=by
 simp only [zzq4]at h;obtain⟨h1,h2,h3,h4,h5⟩:=h;exact⟨⟨none,0,none,0,none,0,rfl,.inl rfl,.inl rfl,.inl rfl⟩,zcc h1,zcc h2,zcc h3,zzZ _,zcc h4,zcc h5,zcc rfl,zzZ _,zzZ _,zzZ _⟩
theorem zhM {w:World} {O:Nat} {T:TypeId} {r:Int} (ho:w.heap[O]?=some (.cells #[.int .i64 1,.int .i64 r] T (0,0))) (hr:zdD r=true) (op dk dn to' n:Int) (h:(zdD op&&(zdD dk&&(zdD dn&&(zdD to'&&zdD n))))=true):InsR w (kR op dk dn (some ⟨O,0,none⟩) 1 to' n) (kI op dk dn [⟨1,r⟩] to' n):=by
 simp only [zzq4]at h;obtain⟨h1,h2,h3,h4,h5⟩:=h;refine⟨⟨some ⟨O,0,none⟩,1,none,0,none,0,rfl,.inr ⟨O,0,rfl,zd ho,fun j hj=>?_⟩,.inl rfl,.inl rfl⟩,zcc h1,zcc h2,zcc h3,by show(1:Nat)<=maxLen;unfold maxLen;omega,zcc h4,zcc h5,zcc rfl,zzZ _,zzZ _,zzZ _⟩;obtain rfl:j=0:=by have hj:j<1:=hj;omega
 refine⟨[.int .i64 1,.int .i64 r],rfl,fun k hk=>?_,rfl,zcc rfl,zcc hr⟩;rw [zzq0 _ _ _ _ _ _ ho,show 0+0*2+k=k by omega];simp
theorem zC {w:World} {b:Nat} {T:TypeId} {v0 v1 v2 v3 v4 v5 v6 v7 v8 v9:Value} (h:w.heap[b]?=some (.cells #[v0,v1,v2,v3,v4,v5,v6,v7,v8,v9] T (0,0))):
  w.cell? ⟨b,0,none⟩=some v0/\w.cell? ⟨b,1,none⟩=some v1/\w.cell? ⟨b,2,none⟩=some v2/\w.cell? ⟨b,3,none⟩=some v3/\w.cell? ⟨b,4,none⟩=some v4/\w.cell? ⟨b,5,none⟩=some v5/\w.cell? ⟨b,6,none⟩=some v6/\w.cell? ⟨b,7,none⟩=some v7/\w.cell? ⟨b,8,none⟩=some v8/\w.cell? ⟨b,9,none⟩=some v9:=
 ⟨zzq0 w b 0 _ _ _ h,zzq0 w b 1 _ _ _ h,zzq0 w b 2 _ _ _ h,zzq0 w b 3 _ _ _ h,zzq0 w b 4 _ _ _ h,zzq0 w b 5 _ _ _ h,zzq0 w b 6 _ _ _ h,zzq0 w b 7 _ _ _ h,zzq0 w b 8 _ _ _ h,zzq0 w b 9 _ _ _ h⟩
def ziN:List RIns:=[kI 1 1 1 [⟨1,0⟩] 0 0,kI 26 0 0 [] 0 0]
def zq9 (O:Nat):List Value:=kR 1 1 1 (some ⟨O,0,none⟩) 1 0 0++(kR 26 0 0 none 0 0 0++ [])
abbrev KO12 (O:Nat):Obj:=.cells #[.int .i64 1,.int .i64 1,.int .i64 1,.slice (some ⟨O,0,none⟩) 1 1,.int .i64 0,.int .i64 0,.int .i64 0,.string ⟨#[]⟩,.slice none 0 0,.slice none 0 0,.int .i64 26,.int .i64 0,.int .i64 0,.slice none 0 0,.int .i64 0,.int .i64 0,.int .i64 0,.string ⟨#[]⟩,.slice none 0 0,.slice none 0 0] 47
theorem zqX {w:World} {O A:Nat} {T T':TypeId} (ho:w.heap[O]?=some (.cells #[.int .i64 1,.int .i64 0] T' (0,0))) (h:w.heap[A]?=some (.cells (zq9 O).toArray T (0,0))):SlAt w 10 (InsR w) (some ⟨A,0,none⟩) ziN:=zhF h ⟨_,_,rfl,rfl,zhM ho rfl _ _ _ _ _ rfl,⟨_,_,rfl,rfl,zgq _ _ _ _ _ _ rfl,rfl⟩⟩
def zi5:List RIns:=[kI 26 0 0 [] 0 0,kI 1 1 1 [⟨1,2⟩] 0 0,kI 26 0 0 [] 0 0]
def zqY (O:Nat):List Value:=kR 26 0 0 none 0 0 0++(kR 1 1 1 (some ⟨O,0,none⟩) 1 0 0++(kR 26 0 0 none 0 0 0++ []))
abbrev KO13 (O:Nat):Obj:=.cells #[.int .i64 26,.int .i64 0,.int .i64 0,.slice none 0 0,.int .i64 0,.int .i64 0,.int .i64 0,.string ⟨#[]⟩,.slice none 0 0,.slice none 0 0,.int .i64 1,.int .i64 1,.int .i64 1,.slice (some ⟨O,0,none⟩) 1 1,.int .i64 0,.int .i64 0,.int .i64 0,.string ⟨#[]⟩,.slice none 0 0,.slice none 0 0,.int .i64 26,.int .i64 0,.int .i64 0,.slice none 0 0,.int .i64 0,.int .i64 0,.int .i64 0,.string ⟨#[]⟩,.slice none 0 0,.slice none 0 0] 47
theorem zq1 {w:World} {O A:Nat} {T T':TypeId} (ho:w.heap[O]?=some (.cells #[.int .i64 1,.int .i64 2] T' (0,0))) (h:w.heap[A]?=some (.cells (zqY O).toArray T (0,0))):SlAt w 10 (InsR w) (some ⟨A,0,none⟩) zi5:=zhF h ⟨_,_,rfl,rfl,zgq _ _ _ _ _ _ rfl,⟨_,_,rfl,rfl,zhM ho rfl _ _ _ _ _ rfl,⟨_,_,rfl,rfl,zgq _ _ _ _ _ _ rfl,rfl⟩⟩⟩
def zi6:List RIns:=[kI 1 1 1 [⟨1,2⟩] 0 0,kI 26 0 0 [] 0 0]
def zq8 (O:Nat):List Value:=kR 1 1 1 (some ⟨O,0,none⟩) 1 0 0++(kR 26 0 0 none 0 0 0++ [])
abbrev KO14 (O:Nat):Obj:=.cells #[.int .i64 1,.int .i64 1,.int .i64 1,.slice (some ⟨O,0,none⟩) 1 1,.int .i64 0,.int .i64 0,.int .i64 0,.string ⟨#[]⟩,.slice none 0 0,.slice none 0 0,.int .i64 26,.int .i64 0,.int .i64 0,.slice none 0 0,.int .i64 0,.int .i64 0,.int .i64 0,.string ⟨#[]⟩,.slice none 0 0,.slice none 0 0] 47
theorem zq7 {w:World} {O A:Nat} {T T':TypeId} (ho:w.heap[O]?=some (.cells #[.int .i64 1,.int .i64 2] T' (0,0))) (h:w.heap[A]?=some (.cells (zq8 O).toArray T (0,0))):SlAt w 10 (InsR w) (some ⟨A,0,none⟩) zi6:=zhF h ⟨_,_,rfl,rfl,zhM ho rfl _ _ _ _ _ rfl,⟨_,_,rfl,rfl,zgq _ _ _ _ _ _ rfl,rfl⟩⟩
structure VSt where
 frame:Int
 x:List Int
 y:List Int
 tries:List Int
 mt:Bool
 recv:Int
 frm:Int
abbrev zzs(s:VSt)(a:Option Addr)(b:Nat)(c:Option Addr)(d:Nat)(e:Option Addr)(f:Nat):Array Value:=#[.int .i64 s.frame,.slice a s.x.length b,.slice c s.y.length d,.slice e s.tries.length f,.bool s.mt,.int .i64 s.recv,.int .i64 s.frm]
abbrev zzrSot(X:World)(B:Nat)(o:Nat)(v:VSt)(a0:Option Addr)(b0:Nat)(a1:Option Addr)(b1:Nat)(a2:Option Addr)(b2:Nat):Prop:=X.cell? ⟨B,o,none⟩=some (.int .i64 v.frame)/\X.cell? ⟨B,o+1,none⟩=some (.slice a0 v.x.length b0)/\X.cell? ⟨B,o+2,none⟩=some (.slice a1 v.y.length b1)/\X.cell? ⟨B,o+3,none⟩=some (.slice a2 v.tries.length b2)/\X.cell? ⟨B,o+4,none⟩=some (.bool v.mt)/\X.cell? ⟨B,o+5,none⟩=some (.int .i64 v.recv)/\X.cell? ⟨B,o+6,none⟩=some (.int .i64 v.frm)
abbrev zzrSt(X:World)(B:Nat)(v:VSt)(a0:Option Addr)(b0:Nat)(a1:Option Addr)(b1:Nat)(a2:Option Addr)(b2:Nat):Prop:=X.cell? ⟨B,0,none⟩=some (.int .i64 v.frame)/\X.cell? ⟨B,1,none⟩=some (.slice a0 v.x.length b0)/\X.cell? ⟨B,2,none⟩=some (.slice a1 v.y.length b1)/\X.cell? ⟨B,3,none⟩=some (.slice a2 v.tries.length b2)/\X.cell? ⟨B,4,none⟩=some (.bool v.mt)/\X.cell? ⟨B,5,none⟩=some (.int .i64 v.recv)/\X.cell? ⟨B,6,none⟩=some (.int .i64 v.frm)
abbrev zzrS(X:World)(B:Nat)(v:VSt)(a0:Option Addr)(b0:Nat)(a1:Option Addr)(b1:Nat)(a2:Option Addr)(b2:Nat)(r:Prop):Prop:=X.cell? ⟨B,0,none⟩=some (.int .i64 v.frame)/\X.cell? ⟨B,1,none⟩=some (.slice a0 v.x.length b0)/\X.cell? ⟨B,2,none⟩=some (.slice a1 v.y.length b1)/\X.cell? ⟨B,3,none⟩=some (.slice a2 v.tries.length b2)/\X.cell? ⟨B,4,none⟩=some (.bool v.mt)/\X.cell? ⟨B,5,none⟩=some (.int .i64 v.recv)/\X.cell? ⟨B,6,none⟩=some (.int .i64 v.frm)/\r
def VSt.zero:VSt:=⟨0,[],[],[],false,0,0⟩
def zT (a b:Int):Int:=if a=b then a else if a=0\/b=0 then 0 else if 3<=a/\3<=b then min a b else 1
def zbg (l:List Int):Nat->Nat
 |0=>0
 |n+1=>if l.getD n 0=0 then zbg l n else n+1
def zA (l:List Int):List Int:=l.take (zbg l l.length)
def zcB (l:List Int) (n:Int):Int:=l.getD n.toNat 0
def zH:List Int->List Int->List Int
 |a::l,b::m=>zT a b::zH l m
 |_,_=>[]
def zbf (a b:VSt):VSt:=⟨a.frame,zA (zH a.x b.x),zH a.y b.y,a.tries,a.mt&&b.mt,a.recv,a.frm⟩
def zG (a b:VSt):Int:=if a.frame≠b.frame then 181 else if a.tries≠b.tries then 182 else if a.recv≠b.recv\/a.frm≠b.frm then 184 else 0
def zbY (n:Int):List Int:=List.replicate n.toNat 1
def zcA (n:Int):VSt:=⟨-1,zbY n,[],[],false,0,0⟩
def zc1 (l:List Int) (n:Nat) (t:Int):List Int:=(l++List.replicate (n+1-l.length) 0).set n t
def zb6 (s:VSt) (a:RArg) (t:Int):VSt:=if a.kind=1 then{s with x:=zA (zc1 s.x a.n.toNat t)}else if a.kind=2 then{s with y:=s.y.set a.n.toNat t}else s
structure VM where
 st:VSt
 all:List VSt
 wrong:Int
def zcC (s:VSt) (w:Int) (t:VSt):Int:=if zG s t≠0/\(w=0\/zG s t<w)then zG s t else w
def zF (s:VSt) (l:List VSt) (w:Int):Int:=l.foldl (zcC s) w
def zbj (s:VSt) (l:List VSt):Bool:=l.any (fun t=>zG s t==0)
def zdq:Option VM->VSt->Option VM
 |none,s=>some ⟨s,[s],0⟩
 |some m,s=>some ⟨if zF s m.all m.wrong=0 then zbf m.st s else m.st,if zbj s m.all=true then m.all else m.all++ [s],zF s m.all m.wrong⟩
section
variable (u:RUnit)
def ziH (i:Int):Int:=match u.lits[i.toNat]? with
 |some t=>if t.kind=9 then 2 else if t.kind=7 then 3+t.items.length else 1
 |none=>1
def zcj (s:VSt) (a:RArg):Int:=if a.kind=1 then zcB s.x a.n else if a.kind=2 then(if s.frame<=a.n then 0 else s.y.getD a.n.toNat 0)else ziH u a.n
def zb2 (s:VSt) (a:RArg):Int:=if a.kind=1 then(if zcB s.x a.n=0 then 186 else 0)else if a.kind=2 then(if s.frame<=a.n then 181 else 0)else 0
def zbS (x:RIns):Int:=if x.op=15\/x.op=18\/x.op=19\/x.op=20\/x.op=21 then x.n else if x.op=16\/x.op=17 then((u.funcs[x.n.toNat]?).map RFunc.arity).getD 0 else if x.op=26 then 1 else 0
def zbs (s:VSt):List RArg->Int
 |[]=>0
 |a::l=>if zb2 s a≠0 then zb2 s a else zbs s l
def zW:List RSeg->List RArg
 |[]=>[]
 |g::l=>g.val::(if g.size.kind=0/\g.size.n=0 then zW l else g.size::zW l)
def zbJ (n:Nat):List RArg:=(List.range n).map fun k:Nat=>⟨1,(k:Int)⟩
def zdk (x:RIns):List RArg:=x.src++(zW x.segs++zbJ (zbS u x).toNat)
def zbF (s:VSt) (x:RIns):Int:=if zbs s (zdk u x)≠0 then zbs s (zdk u x)else if x.dst.kind=2/\s.frame<=x.dst.n then 181 else 0
def zB (x:RIns):RArg:=x.src.headD ⟨0,0⟩
def zcq (s:VSt) (x:RIns):Int:=if x.op=5 then(if zcj u s (zB x)<3+x.n+1 then 180 else 0)else if x.op=6\/x.op=7 then(if zcj u s (zB x)≠2 then 180 else 0)else 0
def zfA (op:Int):Bool:=decide (op∈([1,5,6,7,8,9,10,11,12,13,30,31,32,33,34]:List Int))
def zcp (s:VSt) (x:RIns):Int:=if x.op=37\/x.op=40 then(if s.recv≠1 then 184 else 0)else if x.op=38\/x.op=39 then(if s.recv≠2 then 184 else 0)else if zfA x.op=true then 0 else if s.recv≠0 then 184 else 0
def zda (s:VSt) (x:RIns):Int:=if s.mt=false/\31<=x.op/\x.op<=34 then 183 else 0
def zbi (op:Int):Bool:=decide (op=26\/op=17\/op=19\/op=21\/op=23)
def zc4 (s:VSt) (x:RIns):Int:=if 0<=s.frame/\(x.op=24\/zbi x.op=true)\/s.frame<0/\x.op=25 then 181 else 0
def zcn (l:List Int):Int:=l.getD (l.length-1) 0
def zde (i:Nat) (s:VSt) (x:RIns):Int:=if s.tries.length=0 then(if x.op=29 then 182 else 0)else if zbi x.op=true\/zbu x.op=true/\zcn s.tries<=i then 182 else 0
def zbw:List Int->Int
 |[]=>0
 |e::l=>if e≠0 then e else zbw l
def zb1 (i:Nat) (s:VSt) (x:RIns):Int:=zbw [zbF u s x,zcq u s x,zcp s x,zda s x,zc4 s x,zde i s x]
def zcM (s:VSt) (x:RIns):Int:=
 if x.op=1 then zcj u s (zB x)else if x.op=2\/x.op=13/\x.name.data.toList= [123,125]then 3+x.src.length else if x.op=3\/x.op=13/\x.name.data.toList= [124]then 2 else 1
def zcY (op:Int):Bool:=decide (op∈([2,3,4,13,14,31,32,33,35]:List Int))
def z8 (s:VSt) (x:RIns):VSt:=if zcY x.op=true/\x.live<s.x.length then{s with x:=zA (s.x.take x.live.toNat)}else s
def zci (s:VSt):VSt:={s with x:=[1],mt:=false}
def zcL (s:VSt):VSt:={zci s with y:=List.replicate s.y.length 1,recv:=2}
def zdj (i:Nat) (s:VSt) (x:RIns):VSt:=
 let c:=z8 s x
 let n:=if x.dst.kind≠0 then zb6 c x.dst (zcM u s x)else c
 if x.op=9 then zb6 c (zB x) (3+x.n)else if x.op=10 then zb6 c (zB x) 2
 else if x.op=15\/x.op=16\/x.op=18\/x.op=20\/x.op=22 then zci c
 else if x.op=37 then zcL c
 else if x.op=24 then{n with frame:=x.n,y:=zbY x.n}
 else if x.op=25 then{n with frame:= -1,y:=[]}
 else if x.op=28 then{n with tries:=c.tries++ [x.to]}
 else if x.op=29 then{n with tries:=c.tries.take (c.tries.length-1)}
 else if x.op=30 then{n with mt:=true}
 else if x.op=36 then{n with recv:=1,frm:=i}
 else if x.op=38\/x.op=40 then{n with recv:=0,frm:=0}
 else n
def toV (s:VSt) (x:RIns):VSt:=
 if x.op=37 then{zcL (z8 s x)with x:=[],recv:=1}else if x.op=39 then{z8 s x with recv:=1}else z8 s x
def zcD (s:VSt):VSt:=⟨s.frame,[1,1],s.y,s.tries.take (s.tries.length-1),false,0,0⟩
def z7 (op:Int):Bool:=!(decide (op=8\/op=39\/op=12\/op=27)||zbi op)
def toB (op:Int):Bool:=decide (op∈([8,9,10,11,12,13,30,31,32,33,34,37,39,40]:List Int))
def zbW (i:Nat) (x:RIns):List Int:=
 (if z7 x.op=true then [(i:Int)+1]else [])++((if toB x.op=true then [x.to]else [])++(if x.op=12 then x.cases.map RCase.to else []))
def zbC:List VSt->Int
 |[]=>0
 |a::l=>if l.any (fun b=>decide (b.frame≠a.frame))=true then 181 else if l.any (fun b=>decide (b.tries≠a.tries))=true then 182 else if l.any (fun b=>decide (b.recv≠a.recv\/b.frm≠a.frm))=true then 184 else 0
def zbv:List VSt->VSt
 |[]=>VSt.zero
 |a::l=>l.foldl zbf a
def zcE (i:Nat):RIns:=(u.code[i]?).getD ⟨0,⟨0,0⟩,[],0,0,0,⟨#[]⟩,[],[]⟩
def zbL (i:Nat) (s:VSt) (x:RIns):List (Nat × VSt):=
 (if toB x.op=true/\i<x.to then [(x.to.toNat,toV s x)]else [])++(x.cases.map (fun c=>(c.to.toNat,toV s x)) ++
  ((if zbu x.op=true/\s.tries≠ []then [((zcn s.tries).toNat,zcD s)]else [])++(if z7 x.op=true then [(i+1,zdj u i s x)]else [])))
def zce (t:Option VSt) (s:VSt):Bool:=match t with
 |none=>true
 |some t=>decide (t.frame≠s.frame\/t.frm≠s.frm\/t.tries≠s.tries)
def zbN (i:Nat) (s:VSt) (x:RIns) (S:Nat->Option VSt):Int:=if toB x.op=true/\x.to<=i/\zce (S x.to.toNat) s=true then 184 else if z7 x.op=true/\i+1=u.code.length then 185 else 0
def zbd (K:Nat->List VSt) (p:Nat × VSt):Nat->List VSt:=fun j=>if j=p.1 then K j++ [p.2]else K j
def zX (M:Nat->Option VM) (p:Nat × VSt):Nat->Option VM:=fun j=>if j=p.1 then zdq (M j) p.2 else M j
def zcw (S:Nat->Option VSt) (i:Nat) (s:VSt):Nat->Option VSt:=fun j=>if j=i then some s else S j
def zcy:Nat->Nat->(Nat->List VSt)->(Nat->Option VSt)->(Int × Int) × (Nat->Option VSt)
 |0,_,_,S=>((0,0),S)
 |f+1,i,K,S=>
  if K i= []then zcy f (i+1) K S
  else if zbC (K i)≠0 then((i,zbC (K i)),S)
  else if zb1 u i (zbv (K i)) (zcE u i)≠0 then((i,zb1 u i (zbv (K i)) (zcE u i)),S)
  else if zbN u i (zbv (K i)) (zcE u i) (zcw S i (zbv (K i)))≠0 then((i,zbN u i (zbv (K i)) (zcE u i) (zcw S i (zbv (K i)))),S)
  else zcy f (i+1) ((zbL u i (zbv (K i)) (zcE u i)).foldl zbd K) (zcw S i (zbv (K i)))
def stM (M:Nat->Option VM):Nat->Option VSt:=fun j=>(M j).map VM.st
def zcJ:Nat->Nat->(Nat->Option VM)->(Int × Int) × (Nat->Option VM)
 |0,_,M=>((0,0),M)
 |f+1,i,M=>match M i with
  |none=>zcJ f (i+1) M
  |some m=>
   if m.wrong≠0 then((i,m.wrong),M)
   else if zb1 u i m.st (zcE u i)≠0 then((i,zb1 u i m.st (zcE u i)),M)
   else if zbN u i m.st (zcE u i) (stM M)≠0 then((i,zbN u i m.st (zcE u i) (stM M)),M)
   else zcJ f (i+1) ((zbL u i m.st (zcE u i)).foldl zX M)
def zdz:List (Nat × VSt):=u.funcs.map (fun f=>(f.entry.toNat,zcA f.arity))++u.funs.map (fun f=>(f.entry.toNat,zcA (f.arity+f.free)))
def zbQ:(Int × Int) × (Nat->Option VSt):=zcy u u.code.length 0 (zdz u |>.foldl zbd fun _=>[]) (fun _=>none)
def zbO:(Int × Int) × (Nat->Option VM):=zcJ u u.code.length 0 (zdz u |>.foldl zX fun _=>none)
end
theorem zgz (s t:VSt):zG s t=0\/zG s t=181\/zG s t=182\/zG s t=184:=by
 unfold zG;split<;>(try split)<;>(try split)<;>simp
theorem clash_zero {s t:VSt}:zG s t=0↔s.frame=t.frame/\s.tries=t.tries/\s.recv=t.recv/\s.frm=t.frm:=by
 exact zz59
theorem clash_181 {s t:VSt}:zG s t=181↔s.frame≠t.frame:=by
 unfold zG;by_cases h1:s.frame=t.frame
 ·simp only [h1,ne_eq,not_true_eq_false,if_false,iff_false]
  split
  ·omega
  ·split<;>omega
 ·simp [h1]
theorem clash_182 {s t:VSt}:zG s t=182↔s.frame=t.frame/\s.tries≠t.tries:=by
 unfold zG;by_cases h1:s.frame=t.frame
 ·by_cases h2:s.tries=t.tries
  ·simp only [h1,h2,ne_eq,not_true_eq_false,if_false,and_false,iff_false]
   split<;>omega
  ·simp [h1,h2]
 ·simp [h1]
theorem clash_184 {s t:VSt}:zG s t=184↔s.frame=t.frame/\s.tries=t.tries/\(s.recv≠t.recv\/s.frm≠t.frm):=by
 exact zz59
def zfq (w:Int):Prop:=w=0\/w=181\/w=182\/w=184
theorem zie (s:VSt) {w:Int} (t:VSt) (h:zfq w):zfq (zcC s w t):=by
 unfold zcC;split
 ·exact zgz s t
 ·exact h
theorem ziM (s:VSt): ∀(l:List VSt) (w:Int),zfq w->zF s l w=if w=181\/ ∃t∈l,zG s t=181 then 181 else if w=182\/ ∃t∈l,zG s t=182 then 182 else if w=184\/ ∃t∈l,zG s t=184 then 184 else 0
 |[],w,h=>by
  rcases h with h|h|h|h<;>subst h<;>simp [zF]
 |t::l,w,h=>by
  show zF s l (zcC s w t)=_;rw [ziM s l _ (zie s t h)];have key: ∀n:Int,n=181\/n=182\/n=184->((∃t'∈t::l,zG s t'=n)↔zG s t=n\/ ∃t'∈l,zG s t'=n):=fun n _=>by simp
  simp only [key 181 (by omega),key 182 (by omega),key 184 (by omega)];have hw:zcC s w t=if zG s t≠0/\(w=0\/zG s t<w)then zG s t else w:=rfl
  rcases h with h|h|h|h<;>rcases zgz s t with c|c|c|c<;>subst h<;>rw [hw,c]<;>simp
theorem zgv (a:VSt) (l:List VSt):zbC (a::l)=if l.any (fun b=>decide (b.frame≠a.frame))=true then 181 else if l.any (fun b=>decide (b.tries≠a.tries))=true then 182 else if l.any (fun b=>decide (b.recv≠a.recv\/b.frm≠a.frm))=true then 184 else 0:=rfl
theorem zkN: ∀l:List VSt,zfq (zbC l)
 |[]=>.inl rfl
 |a::l=>by
  rw [zgv];by_cases c1:l.any (fun b=>decide (b.frame≠a.frame))=true
  ·rw [if_pos c1];exact .inr (.inl rfl)
  ·by_cases c2:l.any (fun b=>decide (b.tries≠a.tries))=true
   ·rw [if_neg c1,if_pos c2];exact .inr (.inr (.inl rfl))
   ·by_cases c3:l.any (fun b=>decide (b.recv≠a.recv\/b.frm≠a.frm))=true
    ·rw [if_neg c1,if_neg c2,if_pos c3];exact .inr (.inr (.inr rfl))
    ·rw [if_neg c1,if_neg c2,if_neg c3];exact .inl rfl
theorem zkT {p:VSt->Prop} [DecidablePred p] {l:List VSt}:l.any (fun b=>decide (p b))=true↔ ∃b∈l,p b:=by simp
theorem zdL (a:VSt) (l:List VSt):zbC (a::l)=if∃b∈l,b.frame≠a.frame then 181 else if∃b∈l,b.tries≠a.tries then 182 else if∃b∈l,b.recv≠a.recv\/b.frm≠a.frm then 184 else 0:=by
 rw [zgv];simp only [zkT]
structure MeetIs (a:VSt) (l:List VSt) (m:VM):Prop where
 ne:m.all≠ []
 sub: ∀t∈m.all,t∈a::l
 cov: ∀s∈a::l,∃t∈m.all,zG s t=0
 wr:m.wrong=zbC (a::l)
 st:m.wrong=0->m.st=l.foldl zbf a
theorem zoo (a:VSt):MeetIs a [] ⟨a,[a],0⟩:=
 ⟨by simp,fun t h=>h,fun s h=>⟨s,by simpa using h,clash_zero.2 ⟨rfl,rfl,rfl,rfl⟩⟩,by rw [zdL];simp,fun _=>rfl⟩
theorem zoT {a s:VSt} {l:List VSt} {m m':VM} (h:MeetIs a l m) (he:zdq (some m) s=some m'):MeetIs a (l++ [s]) m':=by
 have hm:m'=⟨if zF s m.all m.wrong=0 then zbf m.st s else m.st,if zbj s m.all=true then m.all else m.all++ [s],zF s m.all m.wrong⟩:=(zzf he).symm;have hE:zfq m.wrong:=by rw [h.wr];exact zkN _
 have hW:=ziM s m.all m.wrong hE;have hD:=zdL a (l++ [s]);have hd:=zdL a l
 have ex_snoc: ∀p:VSt->Prop,(∃b∈l++ [s],p b)↔(∃b∈l,p b)\/p s:=fun p=>by
  constructor
  ·rintro⟨b,hb,hp⟩
   rcases zzk.1 hb with h|h
   ·exact .inl ⟨b,h,hp⟩
   ·rw [List.mem_singleton]at h;subst h;exact .inr hp
  ·rintro(⟨b,hb,hp⟩|hp)
   ·exact⟨b,by simp [hb],hp⟩
   ·exact⟨s,by simp,hp⟩
 simp only [ex_snoc]at hD;obtain⟨t0,ht0⟩:=List.exists_mem_of_ne_nil _ h.ne
 have fr:(¬ ∃b∈l,b.frame≠a.frame)-> ∀t∈m.all,t.frame=a.frame:=fun hn t ht=>by
  exact zz60
 have tr:(¬ ∃b∈l,b.tries≠a.tries)-> ∀t∈m.all,t.tries=a.tries:=fun hn t ht=>by
  exact zz60
 have rc:(¬ ∃b∈l,b.recv≠a.recv\/b.frm≠a.frm)-> ∀t∈m.all,t.recv=a.recv/\t.frm=a.frm:=fun hn t ht=>by
  rcases List.mem_cons.1 (h.sub t ht)with e|e
  ·rw [e];exact⟨rfl,rfl⟩
  ·exact⟨Decidable.byContradiction fun c=>hn ⟨t,e,.inl c⟩,Decidable.byContradiction fun c=>hn ⟨t,e,.inr c⟩⟩
 have hwr:zF s m.all m.wrong=zbC (a::(l++ [s])):=by
  rw [hW,hD,h.wr,hd];by_cases c1: ∃b∈l,b.frame≠a.frame
  ·simp [c1]
  ·have f1:=fr c1
   have e1:(∃t∈m.all,zG s t=181)↔s.frame≠a.frame:=by
    constructor
    ·rintro⟨t,ht,hc⟩;rw [<-f1 t ht];exact clash_181.1 hc
    ·exact fun hn=>⟨t0,ht0,clash_181.2 (by rw [f1 t0 ht0];exact hn)⟩
   simp only [e1,c1,if_false,false_or];by_cases c2:s.frame=a.frame
   ·by_cases d1: ∃b∈l,b.tries≠a.tries
    ·simp [d1,c2,c1]
    ·have f2:=tr d1
     have e2:(∃t∈m.all,zG s t=182)↔s.tries≠a.tries:=by
      constructor
      ·rintro⟨t,ht,hc⟩;rw [<-f2 t ht];exact(clash_182.1 hc).2
      ·exact fun hn=>⟨t0,ht0,clash_182.2 ⟨by rw [f1 t0 ht0];exact c2,by rw [f2 t0 ht0];exact hn⟩⟩
     simp only [e2,d1,if_false,false_or];by_cases c3:s.tries=a.tries
     ·by_cases d2: ∃b∈l,b.recv≠a.recv\/b.frm≠a.frm
      ·simp [d2,c3,c2,c1,d1]
      ·have f3:=rc d2
       have e3:(∃t∈m.all,zG s t=184)↔(s.recv≠a.recv\/s.frm≠a.frm):=by
        constructor
        ·rintro⟨t,ht,hc⟩;rw [<-(f3 t ht).1,<-(f3 t ht).2];exact(clash_184.1 hc).2.2
        ·exact fun hn=>⟨t0,ht0,clash_184.2 ⟨by rw [f1 t0 ht0];exact c2,by rw [f2 t0 ht0];exact c3,by rw [(f3 t0 ht0).1,(f3 t0 ht0).2];exact hn⟩⟩
       simp only [e3,d2,if_false,false_or];simp [c2,c3,c1,d1,d2]
     ·by_cases d2: ∃b∈l,b.recv≠a.recv\/b.frm≠a.frm<;>simp [d2,c3,c2,c1,d1]
   ·by_cases d1: ∃b∈l,b.tries≠a.tries
    ·simp [d1,c2,c1]
    ·by_cases d2: ∃b∈l,b.recv≠a.recv\/b.frm≠a.frm<;>simp [d2,c2,c1,d1]
 have hsub: ∀t∈m.all,t∈a::(l++ [s]):=fun t ht=>by
  rcases List.mem_cons.1 (h.sub t ht)with e|e
  ·simp [e]
  ·simp [e]
 subst hm;refine⟨?_,?_,?_,hwr,?_⟩
 ·show(if zbj s m.all=true then m.all else m.all++ [s])≠ []
  split
  ·exact h.ne
  ·simp
 ·show∀t∈(if zbj s m.all=true then m.all else m.all++ [s]),_
  split
  ·exact hsub
  ·intro t ht
   rcases zzk.1 ht with g|g
   ·exact hsub t g
   ·rw [List.mem_singleton]at g;simp [g]
 ·show∀b∈a::(l++ [s]),∃t∈(if zbj s m.all=true then m.all else m.all++ [s]),zG b t=0
  intro b hb
  have hb':b∈a::l\/b=s:=by
   rcases List.mem_cons.1 hb with e|e
   ·exact .inl (by simp [e])
   ·rcases zzk.1 e with e|e
    ·exact .inl (by simp [e])
    ·exact .inr (zzP.1 e)
  rcases hb' with hb'|rfl
  ·obtain⟨t,ht,hc⟩:=h.cov b hb'
   refine⟨t,?_,hc⟩;split
   ·exact ht
   ·exact List.mem_append_left _ ht
  ·by_cases k:zbj b m.all=true
   ·rw [if_pos k]
    unfold zbj at k;obtain⟨t,ht,hc⟩:=List.any_eq_true.1 k;exact⟨t,ht,by simpa using hc⟩
   ·rw [if_neg k]
    exact⟨b,by simp,clash_zero.2 ⟨rfl,rfl,rfl,rfl⟩⟩
 ·show zF s m.all m.wrong=0->(if zF s m.all m.wrong=0 then zbf m.st s else m.st)=_
  intro h0;rw [if_pos h0,List.foldl_append]
  have hw0:m.wrong=0:=by
   rw [hW]at h0;rcases hE with e|e|e|e
   ·exact e
   ·simp [e]at h0
   ·rw [e]at h0;simp at h0;split at h0<;>simp at h0
   ·rw [e]at h0;simp at h0;split at h0<;>(try split at h0)<;>simp at h0
  rw [h.st hw0];rfl
theorem znI (a:VSt): ∀(l:List VSt),∃m,l.foldl zdq (zdq none a)=some m/\MeetIs a l m:=by
 have: ∀(l k:List VSt) (m:VM),MeetIs a k m-> ∃m',l.foldl zdq (some m)=some m'/\MeetIs a (k++l) m':=by
  intro l
  induction l with
  |nil=>exact fun k m h=>⟨m,rfl,by simpa using h⟩
  |cons s l ih=>
   intro k m h;have he:zdq (some m) s=some ⟨if zF s m.all m.wrong=0 then zbf m.st s else m.st,if zbj s m.all=true then m.all else m.all++ [s],zF s m.all m.wrong⟩:=rfl;obtain⟨m',h1,h2⟩:=ih (k++ [s]) _ (zoT h he);exact⟨m',by rw [List.foldl_cons,he];exact h1,by simpa using h2⟩
 intro l;obtain⟨m,h1,h2⟩:=this l [] _ (zoo a);exact⟨m,h1,h2⟩
theorem zqm {l:List VSt} (h:l≠ []): ∃m,l.foldl zdq none=some m/\m.wrong=zbC l/\(zbC l=0->m.st=zbv l):=by
 cases l with
 |nil=>exact absurd rfl h
 |cons a l=>
  obtain⟨m,h1,h2⟩:=znI a l;exact⟨m,h1,h2.wr,fun e=>h2.st (by rw [h2.wr];exact e)⟩
def zdc (K:Nat->List VSt):Nat->Option VM:=fun j=>(K j).foldl zdq none
theorem zoA (K:Nat->List VSt) (p:Nat × VSt):zdc (zbd K p)=zX (zdc K) p:=by
 funext j;unfold zdc zbd zX;by_cases h:j=p.1
 ·simp only [h,if_true,List.foldl_append];rfl
 ·simp only [h,if_false]
theorem ze3: ∀(l:List (Nat × VSt)) (K:Nat->List VSt),zdc (l.foldl zbd K)=l.foldl zX (zdc K)
 |[],_=>rfl
 |p::l,K=>by rw [List.foldl_cons,List.foldl_cons,ze3 l,zoA]
theorem zoP:zdc (fun _=>[])=fun _=>none:=rfl
theorem zjf {i:Nat}: ∀(l:List (Nat × VSt)) (M:Nat->Option VM),(∀p∈l,i<p.1)-> ∀j,j<=i->l.foldl zX M j=M j
 |[],_,_,_,_=>rfl
 |p::l,M,h,j,hj=>by
  rw [List.foldl_cons,zjf l _ (fun q hq=>h q (List.mem_cons_of_mem _ hq)) j hj];unfold zX;have:=h p zzg;rw [if_neg (by omega)]
section
variable {u:RUnit}
theorem zfb: ∀{l:List Int},zbw l=0-> ∀e∈l,e=0
 |[],_,e,h=>absurd h List.not_mem_nil
 |a::l,h,e,he=>by
  unfold zbw at h;by_cases c:a=0
  ·rw [if_neg (by simp [c])]at h
   rcases List.mem_cons.1 he with r|r
   ·rw [r,c]
   ·exact zfb h e r
  ·rw [if_pos c]at h;exact absurd h c
theorem zf1 {i:Nat} {s:VSt} {x:RIns} (h:zb1 u i s x=0):zde i s x=0:=zfb h _ (by simp)
theorem zpp {i:Nat} {s:VSt} {x:RIns} (h:zde i s x=0) (hr:zbu x.op=true) (hn:s.tries≠ []):(i:Int)<zcn s.tries:=by
 unfold zde at h;have h1: ¬s.tries.length=0:=by simpa using hn
 rw [if_neg h1]at h;by_cases c:zbi x.op=true\/zbu x.op=true/\zcn s.tries<=i
 ·rw [if_pos c]at h;simp at h
 ·have: ¬zcn s.tries<=i:=fun g=>c (.inr ⟨hr,g⟩)
  omega
theorem zpE {i:Nat} {s:VSt} {x:RIns} (h:zde i s x=0) (hc: ∀c∈x.cases,(i:Int)<c.to): ∀p∈zbL u i s x,i<p.1:=by
 intro p hp;unfold zbL at hp;rcases zzk.1 hp with g|g
 ·split at g
  ·rename_i c
   rw [List.mem_singleton]at g;subst g;show i<x.to.toNat;omega
  ·exact absurd g List.not_mem_nil
 rcases zzk.1 g with g|g
 ·obtain⟨c,hm,rfl⟩:=List.mem_map.1 g
  have:=hc c hm;show i<c.to.toNat;omega
 rcases zzk.1 g with g|g
 ·split at g
  ·rename_i c
   rw [List.mem_singleton]at g;subst g;have:=zpp h c.1 c.2;show i<(zcn s.tries).toNat;omega
  ·exact absurd g List.not_mem_nil
 ·split at g
  ·rw [List.mem_singleton]at g;subst g
   exact Nat.lt_succ_self i
  ·exact absurd g List.not_mem_nil
theorem zk2 {i:Nat} {s:VSt} {x:RIns} {S T:Nat->Option VSt} (h: ∀j,j<=i->S j=T j):zbN u i s x S=zbN u i s x T:=by
 unfold zbN;by_cases c:x.to<=i
 ·rw [h x.to.toNat (by omega)]
 ·simp only [c,false_and,and_false,if_false]
def zhB (u:RUnit):Prop:= ∀i,i<u.code.length-> ∀c∈(zcE u i).cases,(i:Int)<c.to
theorem zfZ (hu:zhB u): ∀(f i:Nat) (K:Nat->List VSt) (S:Nat->Option VSt),i+f=u.code.length->(∀j,j<i->S j=stM (zdc K) j)->(∀j,i<=j->S j=none) ->
  (zcy u f i K S).1=(zcJ u f i (zdc K)).1/\((zcJ u f i (zdc K)).1.2=0-> ∀j,j<u.code.length->(zcy u f i K S).2 j=stM (zcJ u f i (zdc K)).2 j)
 |0,i,K,S,hf,hS,hN=>⟨rfl,fun _ j hj=>hS j (by omega)⟩
 |f+1,i,K,S,hf,hS,hN=>by
  by_cases hk:K i= []
  ·have hm:zdc K i=none:=by unfold zdc;rw [hk];rfl
   have e1:zcy u (f+1) i K S=zcy u f (i+1) K S:=by rw [zcy,if_pos hk]
   have e2:zcJ u (f+1) i (zdc K)=zcJ u f (i+1) (zdc K):=by rw [zcJ,hm]
   rw [e1,e2];refine zfZ hu f (i+1) K S (by omega) (fun j hj=>?_) (fun j hj=>hN j (by omega));rcases Nat.lt_or_ge j i with c|c
   ·exact hS j c
   ·have:j=i:=by omega
    subst this;rw [hN j (Nat.le_refl j)];unfold stM;rw [hm];rfl
  ·obtain⟨m,h1,h2,h3⟩:=zqm hk
   have hm:zdc K i=some m:=h1;rw [zcy,if_neg hk,zcJ,hm];simp only [h2];by_cases hd:zbC (K i)=0
   ·have h4:=h3 hd
    rw [<-h4]
    have hS2: ∀j,j<=i->zcw S i m.st j=stM (zdc K) j:=fun j hj=>by
     unfold zcw;by_cases c:j=i
     ·rw [if_pos c,c];unfold stM;rw [hm];rfl
     ·rw [if_neg c];exact hS j (by omega)
    rw [zk2 (u:=u) (s:=m.st) (x:=zcE u i) hS2];by_cases hc:zb1 u i m.st (zcE u i)=0
    ·by_cases hp:zbN u i m.st (zcE u i) (stM (zdc K))=0
     ·have hg:=zpE (u:=u) (zf1 hc) (hu i (by omega))
      simp only [hd,hc,hp,ne_eq,not_true_eq_false,if_false];rw [<-ze3];refine zfZ hu f (i+1) _ _ (by omega) (fun j hj=>?_) (fun j hj=>?_)
      ·rw [hS2 j (by omega)]
       unfold stM;rw [ze3,zjf _ _ hg j (by omega)]
      ·unfold zcw;rw [if_neg (by omega)];exact hN j (by omega)
     ·simp only [hd,hc,hp,ne_eq,not_true_eq_false,not_false_eq_true,if_false,if_true]
      exact⟨trivial,fun h=>absurd h (by simp)⟩
    ·simp only [hd,hc,ne_eq,not_true_eq_false,not_false_eq_true,if_false,if_true]
     exact⟨trivial,fun h=>absurd h (by simp)⟩
   ·simp only [hd,ne_eq,not_false_eq_true,if_true]
    exact⟨trivial,fun h=>absurd h (by simp)⟩
theorem zjn (hu:zhB u):(zbQ u).1=(zbO u).1/\((zbO u).1.2=0-> ∀j,j<u.code.length->(zbQ u).2 j=stM (zbO u).2 j):=by
 unfold zbQ zbO;have:=zfZ hu u.code.length 0 ((zdz u).foldl zbd fun _=>[]) (fun _=>none) (by omega) (fun j hj=>absurd hj (zzC j)) (fun _ _=>rfl);rw [ze3,zoP]at this;exact this
end
theorem zgx (a b:Int):zT (zT a b) b=zT a b:=by
 unfold zT;by_cases h1:a=b
 ·simp [h1]
 ·by_cases h2:a=0\/b=0
  ·rw [if_neg h1,if_pos h2]
   by_cases h3:(0:Int)=b<;>simp [h3]
  ·by_cases h3:3<=a/\3<=b
   ·rw [if_neg h1,if_neg h2,if_pos h3]
    by_cases h4:min a b=b
    ·simp [h4]
    ·rw [if_neg h4,if_neg (by omega),if_pos (by omega)];omega
   ·rw [if_neg h1,if_neg h2,if_neg h3]
    by_cases h4:(1:Int)=b
    ·simp [h4]
    ·rw [if_neg h4,if_neg (by omega),if_neg (by omega)]
theorem zlo (b:Int):zT 0 b=0:=by
 unfold zT;by_cases h:(0:Int)=b<;>simp [h]
theorem zgQ (l:List Int): ∀n,zbg l n<=n
 |0=>zzL _
 |n+1=>by unfold zbg;split;exact Nat.le_succ_of_le (zgQ l n);exact zzL _
theorem zgD {l m:List Int}: ∀(n:Nat),(∀k,k<n->l.getD k 0=m.getD k 0)->zbg l n=zbg m n
 |0,_=>rfl
 |n+1,h=>by
  unfold zbg;rw [h n (Nat.lt_succ_self n),zgD n fun k hk=>h k (by omega)]
theorem zgC (l:List Int) {k:Nat}: ∀(n:Nat),k<=n->(∀j,k<=j->j<n->l.getD j 0=0)->zbg l n=zbg l k
 |0,hk,_=>by rw [Nat.le_zero.1 hk]
 |n+1,hk,h=>by
  rcases Nat.lt_or_ge n k with c|c
  ·rw [show k=n+1 by omega]
  ·rw [zbg,if_pos (h n c (Nat.lt_succ_self n))]
   exact zgC l n c fun j h1 h2=>h j h1 (by omega)
theorem zii (l:List Int) (j:Nat): ∀n,zbg l n<=j->j<n->l.getD j 0=0
 |0,_,h=>absurd h (zzC j)
 |n+1,h1,h2=>by
  unfold zbg at h1;split at h1
  ·rename_i c
   rcases Nat.lt_or_ge j n with d|d
   ·exact zii l j n h1 d
   ·rw [show j=n by omega];exact c
  ·omega
theorem zhV (l:List Int) (j:Nat):(zA l).getD j 0=l.getD j 0:=by
 unfold zA;rcases Nat.lt_or_ge j (zbg l l.length)with c|c
 ·rw [List.getD_eq_getElem?_getD,List.getD_eq_getElem?_getD,List.getElem?_take_of_lt c]
 ·have h2:(l.take (zbg l l.length)).getD j 0=0:=by
   rw [List.getD_eq_getElem?_getD,List.getElem?_eq_none (by rw [List.length_take];omega)];rfl
  rw [h2];rcases Nat.lt_or_ge j l.length with d|d
  ·exact(zii l j l.length c d).symm
  ·rw [List.getD_eq_getElem?_getD,List.getElem?_eq_none d];rfl
theorem ziQ {l m:List Int} (h: ∀j,l.getD j 0=m.getD j 0):zA l=zA m:=by
 have key: ∀(l m:List Int),l.length<=m.length->(∀j,l.getD j 0=m.getD j 0)->zA l=zA m:=by
  intro l m hl h
  have e:zbg m m.length=zbg l l.length:=by
   rw [zgC m m.length hl fun j h1 h2=>by rw [<-h j,List.getD_eq_getElem?_getD,List.getElem?_eq_none h1];rfl];exact zgD _ fun k _=>(h k).symm
  have hle:=zgQ l l.length;unfold zA;rw [e];apply List.ext_getElem
  ·rw [List.length_take,List.length_take];omega
  ·intro j h1 h2
   rw [List.length_take]at h1 h2;have g:=h j;rw [List.getD_eq_getElem?_getD,List.getD_eq_getElem?_getD,zzq3 (by omega),zzq3 (by omega)]at g
   simpa using g
 rcases Nat.le_total l.length m.length with c|c
 ·exact key l m c h
 ·exact(key m l c fun j=>(h j).symm).symm
theorem zhk: ∀(l m:List Int) (j:Nat),(zH l m).getD j 0=if j<l.length/\j<m.length then zT (l.getD j 0) (m.getD j 0)else 0
 |[],m,j=>by simp [zH]
 |a::l,[],j=>by simp [zH]
 |a::l,b::m,0=>by simp [zH]
 |a::l,b::m,j+1=>by
  have:=zhk l m j;simp only [zH,List.getD_cons_succ,zzq18,Nat.add_lt_add_iff_right];exact this
theorem zdr: ∀(l m:List Int),(zH l m).length=min l.length m.length
 |[],m=>by simp [zH]
 |a::l,[]=>by simp [zH]
 |a::l,b::m=>by simp only [zH,zzq18,zdr l m];omega
theorem zgF: ∀(l m:List Int),zH (zH l m) m=zH l m
 |[],_=>rfl
 |_::_,[]=>rfl
 |a::l,b::m=>by simp only [zH];rw [zgx,zgF l m]
theorem zhP (l:List Int) {j:Nat} (h:l.length<=j):l.getD j 0=0:=by rw [List.getD_eq_getElem?_getD,List.getElem?_eq_none h];rfl
theorem zj0 (a:Int):zT a 0=0:=by
 unfold zT;by_cases h:a=0<;>simp [h]
theorem zfc (l m:List Int) (j:Nat):(zH l m).getD j 0=zT (l.getD j 0) (m.getD j 0):=by
 rw [zhk];by_cases c1:j<l.length
 ·by_cases c2:j<m.length
  ·rw [if_pos ⟨c1,c2⟩]
  ·rw [if_neg (fun h=>c2 h.2),zhP m (by omega),zj0]
 ·rw [if_neg (fun h=>c1 h.1),zhP l (by omega),zlo]
theorem zjR (a s:VSt):zbf (zbf a s) s=zbf a s:=by
 unfold zbf
 have hx:zA (zH (zA (zH a.x s.x)) s.x)=zA (zH a.x s.x):=by
  rw [show zA (zH a.x s.x)=zA (zH a.x s.x)from rfl];apply ziQ;intro j;rw [zfc,zhV,zfc,zgx]
 simp only [hx,zgF,Bool.and_assoc,Bool.and_self]
theorem zfD {s:VSt}: ∀{l:List VSt} {w:Int},(∀t∈l,zG s t=0\/w≠0/\w<=zG s t)->zF s l w=w
 |[],_,_=>rfl
 |t::l,w,h=>by
  have e:zcC s w t=w:=by
   unfold zcC;rcases h t zzg with c|⟨c1,c2⟩
   ·rw [if_neg (fun g=>g.1 c)]
   ·rw [if_neg (fun g=>by rcases g.2 with g|g<;>omega)]
  show zF s l (zcC s w t)=w;rw [e];exact zfD fun t ht=>h t (zzh _ ht)
theorem zfE {s:VSt}: ∀(l:List VSt) (w:Int),(w≠0->zF s l w≠0/\zF s l w<=w)/\ ∀t∈l,zG s t=0\/zF s l w≠0/\zF s l w<=zG s t
 |[],w=>⟨fun h=>⟨h,Int.le_refl _⟩,fun t h=>absurd h List.not_mem_nil⟩
 |t::l,w=>by
  have ih:=zfE (s:=s) l (zcC s w t);have hw:zcC s w t=if zG s t≠0/\(w=0\/zG s t<w)then zG s t else w:=rfl
  refine⟨fun h=>?_,fun t' ht=>?_⟩
  ·show zF s l (zcC s w t)≠0/\zF s l (zcC s w t)<=w
   have:zcC s w t≠0/\zcC s w t<=w:=by
    rw [hw];split<;>omega
   have:=ih.1 this.1;omega
  ·show zG s t'=0\/zF s l (zcC s w t)≠0/\zF s l (zcC s w t)<=zG s t'
   rcases List.mem_cons.1 ht with r|r
   ·subst r
    by_cases c:zG s t'=0
    ·exact .inl c
    ·have:zcC s w t'≠0/\zcC s w t'<=zG s t':=by
      rw [hw];split<;>omega
     have:=ih.1 this.1;exact .inr (by omega)
   ·exact ih.2 t' r
theorem zfG: ∀l:List Int,zH l l=l
 |[]=>rfl
 |a::l=>by simp only [zH];rw [zfG l];simp [zT]
theorem zl3 {s:VSt} (h:zA s.x=s.x):zbf s s=s:=by
 unfold zbf;rw [zfG,zfG,h,Bool.and_self]
theorem znn (m:Option VM) (s:VSt) (h:zA s.x=s.x):zdq (zdq m s) s=zdq m s:=by
 have hc:zG s s=0:=clash_zero.2 ⟨rfl,rfl,rfl,rfl⟩
 cases m with
 |none=>
  have h1:zF s [s] 0=0:=zfD fun t ht=>.inl (by rw [List.mem_singleton.1 ht];exact hc)
  have h2:zbj s [s]=true:=by simp [zbj,hc]
  show some (VM.mk (if zF s [s] 0=0 then zbf s s else s) (if zbj s [s]=true then [s]else [s]++ [s]) (zF s [s] 0))=some ⟨s,[s],0⟩;rw [if_pos h2,h1,if_pos rfl,zl3 h]
 |some m=>
  have hall: ∀t∈(if zbj s m.all=true then m.all else m.all++ [s]),zG s t=0\/zF s m.all m.wrong≠0/\zF s m.all m.wrong<=zG s t:=by
   intro t ht;split at ht
   ·exact(zfE m.all m.wrong).2 t ht
   ·rcases zzk.1 ht with g|g
    ·exact(zfE m.all m.wrong).2 t g
    ·rw [List.mem_singleton.1 g];exact .inl hc
  have h1:=zfD hall
  have h2:zbj s (if zbj s m.all=true then m.all else m.all++ [s])=true:=by
   by_cases k:zbj s m.all=true
   ·rw [if_pos k];exact k
   ·rw [if_neg k];unfold zbj;rw [List.any_append,Bool.or_eq_true];right;simp [hc]
  show some (VM.mk (if zF s (if zbj s m.all=true then m.all else m.all++ [s]) (zF s m.all m.wrong)=0 then zbf (if zF s m.all m.wrong=0 then zbf m.st s else m.st) s else(if zF s m.all m.wrong=0 then zbf m.st s else m.st))
   (if zbj s (if zbj s m.all=true then m.all else m.all++ [s])=true then(if zbj s m.all=true then m.all else m.all++ [s])else(if zbj s m.all=true then m.all else m.all++ [s])++ [s])
   (zF s (if zbj s m.all=true then m.all else m.all++ [s]) (zF s m.all m.wrong)))=some (VM.mk (if zF s m.all m.wrong=0 then zbf m.st s else m.st) (if zbj s m.all=true then m.all else m.all++ [s]) (zF s m.all m.wrong))
  rw [h1,if_pos h2];by_cases c:zF s m.all m.wrong=0
  ·rw [if_pos c,if_pos c,zjR]
  ·rw [if_neg c,if_neg c]
theorem zY {a b:Int} (h:a=b):Ending.returned (.int .i64 a)= .returned (.int .i64 b):=by rw [h]
theorem zif (a b:Int) (w:World):
  Calls Tryz.prog 97 #[.int .i64 a,.int .i64 b] w fun e w'=>e= .returned (.int .i64 (zT a b))/\w'=w:=by
 by_cases h1:a=b
 ·exact zz62
 ·exact zz61
theorem zca (b:Bool) (e:Int) (w:World):
  Calls Tryz.prog 60 #[.bool b,.int .i64 e] w fun e' w'=>e'= .returned (.int .i64 (if b=true then e else 0))/\w'=w:=by
 cases b with
 |false=>
  go_in;exact zz48
 |true=>
  go_in;exact zz48
theorem zfd (op:Int) (w:World):
  Calls Tryz.prog 62 #[.int .i64 op] w fun e w'=>e= .returned (.bool (zbi op))/\w'=w:=by
 by_cases h:op=26\/op=17\/op=19\/op=21\/op=23
 ·exact zz64
 ·exact zz63
theorem zjE (op:Int) (w:World):
  Calls Tryz.prog 103 #[.int .i64 op] w fun e w'=>e= .returned (.bool (zcY op))/\w'=w:=by
 by_cases h:op=2\/op=3\/op=4\/op=13\/op=14\/op=31\/op=32\/op=33\/op=35
 ·rcases h with rfl|rfl|rfl|rfl|rfl|rfl|rfl|rfl|rfl
  all_goals
   go_in;go_wp2;go_ret;exact⟨rfl,rfl⟩
 ·have E:Hid (zcY op=false):=zzH (zzD (by simpa using h))
  have t1:(op==2)=false:=by rw [zzq1];omega
  have t2:(op==3)=false:=by rw [zzq1];omega
  have t3:(op==4)=false:=by rw [zzq1];omega
  have t4:(op==13)=false:=by rw [zzq1];omega
  have t5:(op==14)=false:=by rw [zzq1];omega
  have t6:(op==31)=false:=by rw [zzq1];omega
  have t7:(op==32)=false:=by rw [zzq1];omega
  have t8:(op==33)=false:=by rw [zzq1];omega
  have t9:(op==35)=false:=by rw [zzq1];omega
  clear h;go_in;go_wp2;go_ret;exact⟨zl E.out.symm,rfl⟩
theorem zjC (op:Int) (w:World):
  Calls Tryz.prog 70 #[.int .i64 op] w fun e w'=>e= .returned (.bool (z7 op))/\w'=w:=by
 by_cases h:op=8\/op=39\/op=12\/op=27
 ·rcases h with rfl|rfl|rfl|rfl
  all_goals
   go_in;go_wp2;go_ret;exact⟨rfl,rfl⟩
 ·have E:Hid (z7 op= !zbi op):=zzH (by unfold z7;rw [decide_eq_false h,zzq9])
  have t1:(op==8)=false:=by rw [zzq1];omega
  have t2:(op==39)=false:=by rw [zzq1];omega
  have t3:(op==12)=false:=by rw [zzq1];omega
  have t4:(op==27)=false:=by rw [zzq1];omega
  clear h;go_in;go_wp2_with (go_at_call 62;refine(zfd _ _).mono ?_;rintro e w1 ⟨rfl,rfl⟩);go_ret;exact⟨zl E.out.symm,rfl⟩
def IntsAt (w:World) (ao:Option Addr) (l:List Int):Prop:=
 l= []\/ ∃b off cs fr,ao=some ⟨b,off,none⟩/\w.heap[b]?=some (.cells cs 3 fr)/\ ∀j (h:j<l.length),cs[off+j]?=some (.int .i64 l[j])
def KeepT (w w':World):Prop:=w.heap.size<=w'.heap.size/\ ∀(k:Nat) (cs:Array Value) (t:TypeId) (fr:Nat × Nat),w.heap[k]?=some (Obj.cells cs t fr)->t≠60->t≠57->w'.heap[k]?=some (Obj.cells cs t fr)
theorem KeepT.refl (w:World):KeepT w w:=⟨zzL _,fun _ _ _ _ h _ _=>h⟩
theorem KeepT.trans {a b c:World} (h:KeepT a b) (k:KeepT b c):KeepT a c:=⟨zzY h.1 k.1,fun j cs t fr x y z=>k.2 j cs t fr (h.2 j cs t fr x y z) y z⟩
theorem KeepT.below {w w':World} (h:Below w.heap.size w w'):KeepT w w':=⟨h.size,fun k cs t fr x _ _=>(h.block k (zd x)).trans x⟩
theorem IntsAt.keep {w w':World} {ao:zzA} {l:List Int} (h:IntsAt w ao l) (k:KeepT w w'):IntsAt w' ao l:=
 h.imp id fun⟨b,off,cs,fr,e,hb,hr⟩=>⟨b,off,cs,fr,e,k.2 b cs _ fr hb (by decide) (by decide),hr⟩
theorem IntsAt.below {w w':World} {ao:zzA} {l:List Int} (h:IntsAt w ao l) (k:Below w.heap.size w w'):IntsAt w' ao l:=h.keep (.below k)
theorem IntsAt.nil (w:World) (ao:zzA):IntsAt w ao []:=.inl rfl
theorem IntsAt.take {w:World} {ao:zzA} {l:List Int} (h:IntsAt w ao l) (n:Nat):IntsAt w ao (l.take n):=
 h.elim (fun e=>.inl (by rw [e,List.take_nil])) fun⟨b,off,cs,fr,e,hb,hr⟩=>.inr ⟨b,off,cs,fr,e,hb,fun j hj=>by
  rw [List.length_take]at hj;rw [hr j (by omega),List.getElem_take]⟩
theorem IntsAt.cell {w:World} {ao:zzA} {l:List Int} (h:IntsAt w ao l) {k:Nat} (hk:k<l.length):
  ∃b off,ao=some ⟨b,off,none⟩/\b<w.heap.size/\w.cell? ⟨b,off+k,none⟩=some (.int .i64 (l.getD k 0)):=by
 rcases h with h|⟨b,off,cs,fr,e,hb,hr⟩
 ·rw [h]at hk;exact absurd hk (zzC _)
 ·refine⟨b,off,e,zd hb,?_⟩
  exact zz65
theorem zdo:(Tryz.prog.info? 3).map (fun i=>(i.zero,i.size,i.bytes))=some (some (.int .i64 0),1,8):=by kernel_rfl
theorem zja (n:Nat) (hn:n<=1000000): ∃arr:Array Value,arr.size=n/\ ∀wx:World,(Instr.makeSlice 38 (.int .i64 (n:Int)) (.int .i64 (n:Int))).run Tryz.prog wx= .ok (.slice (some ⟨wx.heap.size,0,none⟩) n n) (wx.alloc (.cells arr 3)):=by
 obtain⟨i0,hi,hz0,hz1,hz2⟩:=info_parts zdo;refine⟨madeCells (Value.int .i64 0).cells (n*i0.size),by rw [size_madeCells,hz1,Nat.mul_one],fun wx=>?_⟩;have:=run_make (P:=Tryz.prog) wx 38 3 i0 _ Tryz.underlying38 hi hz0 .i64 .i64 n n (by omega) (Int.le_refl _) (by rw [hz2];omega) (by omega);exact zz66
theorem zw {w:World} {B k:Nat} {arr:Array Value} {t:TypeId} {fr:Nat × Nat} (h:w.heap[B]?=some (.cells arr t fr)) (hk:k<arr.size):w.cell? ⟨B,k,none⟩=some arr[k]:=by
 rw [zzq0 _ _ _ _ _ _ h,Array.getElem?_eq_getElem hk]
theorem zds (n:Nat):(zbY (n:Int)).length=n:=by unfold zbY;simp
theorem ziL {ao:zzA} {m n c:Nat} (h:m=n):Ending.returned (.slice ao m c)= .returned (.slice ao n c):=by rw [h]
def HoldsI (arr:Array Value) (k:Nat) (f:Nat->Int):Prop:= ∀j,j<k->arr[j]?=some (.int .i64 (f j))
theorem HoldsI.set {arr:Array Value} {k:Nat} {f:Nat->Int} (h:HoldsI arr k f) (hk:k<arr.size):HoldsI (arr.setIfInBounds k (.int .i64 (f k))) (k+1) f:=by
 intro j hj;rw [zzq7];by_cases c:k=j
 ·subst c;rw [if_pos rfl,if_pos hk]
 ·rw [if_neg c];exact h j (by omega)
theorem zew (n:Int) (w:World) (hn:0<=n/\n<=1000000):
  Calls Tryz.prog 55 #[.int .i64 n] w fun e w'=>(∃ao c,e= .returned (.slice ao (zbY n).length c)/\IntsAt w' ao (zbY n)/\(zbY n).length<=c)/\Below w.heap.size w w':=by
 obtain⟨n,rfl⟩:=zzJ hn.1;obtain⟨arr,ha,hmk⟩:=zja n (by omega);have hB0:Below w.heap.size w (w.alloc (.cells arr 3)):=zzE _ _;have hrow:(w.alloc (.cells arr 3)).heap[w.heap.size]?=some (.cells arr 3 (0,0)):=zzF _ _
 have hn2:n<=1000000:=by omega
 clear hn;go_in;go_wp2_with fail;generalize w.alloc (.cells arr 3)=W at *;refine zzK3 hrow hB0 ha fun HR HB HA=>?_;clear hmk hrow hB0 ha;generalize hD:w.heap.size=B at *;go_loopw [4,9] (fun _ iv wr=> ∃(k:Nat) (ar:Array Value),k<=n/\iv= .int .i64 k/\Hid (wr.heap[B]?=some (.cells ar 3 (0,0))/\ar.size=n/\HoldsI ar k (fun _=>1))/\Below B w wr) (fun _ iv _=>n-(intOf iv).toNat)
 case atStart=>exact⟨0,arr,zzZ _,rfl,zzH ⟨HR.out,HA.out,fun j hj=>absurd hj (zzC j)⟩,HB.out⟩
 case round=>
  obtain⟨k,ar,hk,rfl,HK,hB⟩:=hrel;rename World=>wr
  by_cases hlt:k<n
  ·have hc:=zw HK.out.1 (k:=k) (by rw [HK.out.2.1];exact hlt)
   have hf:wr.frozen? ⟨B,k,none⟩=false:=zzq5 _ _ _ _ _ HK.out.1;go_wp2_with fail;go_roundw
   case rel=>
    refine⟨k+1,_,hlt,by go_num,zzH ⟨zzS _ _ _ _ _ _ HK.out.1,?_,HK.out.2.2.set (f:=fun _=>1) (by rw [HK.out.2.1];exact hlt)⟩,hB.setCell (p:=⟨B,k,none⟩) (zzL _) _⟩;rw [Array.size_setIfInBounds];exact HK.out.2.1
   case measure=>simp [intOf];omega
  ·obtain rfl:k=n:=by omega
   go_wp2;go_ret;refine⟨⟨_,k,ziL (zds k).symm,.inr ⟨B,0,ar,(0,0),rfl,HK.out.1,fun j hj=>?_⟩,Nat.le_of_eq (zds k)⟩,by rw [hD];exact hB⟩;rw [zds]at hj;rw [Nat.zero_add,HK.out.2.2 j hj];unfold zbY;simp
theorem zf5 (l:List Int) (ao:zzA) (c:Nat) (w:World) (h:IntsAt w ao l) (hl:l.length<=maxLen) (hc:l.length<=c):
  Calls Tryz.prog 98 #[.slice ao l.length c] w fun e w'=>e= .returned (.slice ao (zA l).length c)/\Below w.heap.size w w':=by
 have HH:=zzH h;unfold maxLen at hl;have E0:Hid ((zA l).length=zbg l l.length):=zzH (by unfold zA;rw [List.length_take];have:=zgQ l l.length;omega);clear h;generalize hn:l.length=n at *;have hn':n<=l.length:=by omega
 clear hn;generalize(zA l).length=R at *;go_in;go_wp2_with fail;go_loopw [0] (fun v wr=> ∃k:Nat,k<=n/\v= .slice ao k c/\Hid (zbg l n=zbg l k)/\Below w.heap.size w wr) (fun v _=>match v with|.slice _ k _=>k|_=>0)
 case atStart=>exact⟨n,zzL _,rfl,zzH rfl,zzR _ _⟩
 case round=>
  obtain⟨k,hk,rfl,HK,hB⟩:=hrel;rename World=>wr
  cases k with
  |zero=>
   have E:Hid (R=0):=zzH (by rw [E0.out,HK.out];rfl);go_wp2;go_ret;exact⟨ziL E.out.symm,hB⟩
  |succ k=>
   obtain⟨b,off,hao,hlt,q0⟩:=(HH.out.below hB).cell (k:=k) (by omega);subst hao;generalize hv:l.getD k 0=v at *;have hw1:IntKind.i64.wrap (((k+1:Nat):Int)-1)=(k:Int):=by rw [zzq2];omega
   by_cases c0:v=0
   ·have HK2:Hid (zbg l n=zbg l k):=zzH (by rw [HK.out,zbg,if_pos (by rw [hv];exact c0)])
    have t0:(v==0)=true:=zzl.2 c0;clear c0 hv HK;go_wp2_with fail;exact⟨⟨k,by omega,rfl,HK2,hB⟩,Nat.lt_succ_self k⟩
   ·have E:Hid (R=k+1):=zzH (by rw [E0.out,HK.out,zbg,if_neg (by rw [hv];exact c0)])
    have t0:(v==0)=false:=zzB.2 c0;clear c0 hv HK;go_wp2;go_ret;exact⟨ziL E.out.symm,hB⟩
theorem zgW {t:VSt} (ht:zA t.x=t.x): ∀(l:List Nat) (M:Nat->Option VM) (j:Nat),(l.map (fun k=>(k,t))).foldl zX M j=if j∈l then zdq (M j) t else M j
 |[],M,j=>rfl
 |k::l,M,j=>by
  rw [List.map_cons,List.foldl_cons,zgW ht l];unfold zX;by_cases e:j=k
  ·subst e
   rw [if_pos (List.mem_cons_self ..)];simp only [if_true];by_cases h:j∈l
   ·rw [if_pos h];exact znn _ _ ht
   ·rw [if_neg h]
  ·simp only [e,if_false]
   by_cases h:j∈l
   ·rw [if_pos h,if_pos (List.mem_cons_of_mem _ h)]
   ·rw [if_neg h,if_neg (fun h'=>(List.mem_cons.1 h').elim e h)]
theorem znE {t:VSt} (ht:zA t.x=t.x) {l m:List Nat} (h: ∀j,j∈l↔j∈m) (M:Nat->Option VM):(l.map (fun k=>(k,t))).foldl zX M=(m.map (fun k=>(k,t))).foldl zX M:=by
 funext j;rw [zgW ht,zgW ht];by_cases c:j∈l
 ·rw [if_pos c,if_pos ((h j).1 c)]
 ·rw [if_neg c,if_neg (fun x=>c ((h j).2 x))]
structure JumpOk (n i:Nat) (x:RIns):Prop where
 case: ∀c∈x.cases,(i:Int)<c.to/\c.to<n
 sel:x.cases≠ []->x.op=12
 «to»:toB x.op=true->0<=x.to/\x.to<n
 fwd:toB x.op=true->x.op≠39->x.op≠40->(i:Int)<x.to
 non:toB x.op=false->x.op≠28->x.to=0
def zgP (i:Nat) (x:RIns):List Nat:=(if toB x.op=true/\(i:Int)<x.to then [x.to.toNat]else [])++x.cases.map (fun c=>c.to.toNat)
theorem zo0 (u:RUnit) (i:Nat) (s:VSt) (x:RIns):zbL u i s x=(zgP i x).map (fun k=>(k,toV s x))++((if zbu x.op=true/\s.tries≠ []then [((zcn s.tries).toNat,zcD s)]else [])++(if z7 x.op=true then [(i+1,zdj u i s x)]else [])):=by
 unfold zbL zgP;rw [List.map_append,zzq20,List.map_map];congr 1;split<;>rfl
def goB (i:Nat) (x:RIns) (k:Int):Bool:=decide ((i:Int)+1<k)||(decide (k=(i:Int)+1)&&((decide (x.to=k)&& !decide (x.op=28))||x.cases.any (fun c=>decide (c.to=k))))
def zb3 (i:Nat) (s t:VSt) (x:RIns):List Int->(Nat->Option VM)->Int × (Nat->Option VM)
 |[],M=>(0,M)
 |k::l,M=>if goB i x k=true then zb3 i s t x l (zX M (k.toNat,t))else if k<=i/\zce (stM M k.toNat) s=true then(184,M)else zb3 i s t x l M
def zhu (n i:Nat) (x:RIns) (ks:List Int):Prop:= ∀k,k∈ks↔k∈zbW i x/\0<=k/\k<n
theorem zmO {i:Nat} {x:RIns} {k:Int} (h:goB i x k=true):(i:Int)<k:=by
 unfold goB at h;simp at h;omega
theorem zqK {n i:Nat} {x:RIns} {ks:List Int} (hk:zhu n i x ks) (hj:JumpOk n i x) (j:Nat):j∈(ks.filter (goB i x)).map Int.toNat↔j∈zgP i x:=by
 constructor
 ·intro h
  obtain⟨k,hk1,rfl⟩:=List.mem_map.1 h;obtain⟨h1,h2⟩:=List.mem_filter.1 hk1;obtain⟨h3,h4,h5⟩:=(hk k).1 h1;have hgt:=zmO h2;unfold zgP;unfold zbW at h3;rcases zzk.1 h3 with h3|h3
  ·have hf:k=(i:Int)+1:=by
    by_cases c:z7 x.op=true
    ·rw [if_pos c]at h3;simpa using h3
    ·rw [if_neg c]at h3;simp at h3
   unfold goB at h2;rw [Bool.or_eq_true,zzq4,Bool.or_eq_true,zzq4]at h2;rcases h2 with h2|⟨-,⟨h2,h6⟩|h2⟩
   ·have:=zza h2;omega
   ·have e1:=zza h2
    have e2:x.op≠28:=by simpa using h6
    by_cases c:toB x.op=true
    ·refine List.mem_append_left _ ?_
     rw [if_pos ⟨c,by omega⟩,e1];exact zzP.2 rfl
    ·have:=hj.non (by simpa using c) e2;omega
   ·obtain⟨c,hc1,hc2⟩:=List.any_eq_true.1 h2
    refine List.mem_append_right _ (List.mem_map.2 ⟨c,hc1,?_⟩);rw [of_decide_eq_true hc2]
  ·rcases zzk.1 h3 with h3|h3
   ·by_cases c:toB x.op=true
    ·rw [if_pos c]at h3
     have e:=zzP.1 h3;refine List.mem_append_left _ ?_;rw [if_pos ⟨c,by omega⟩,e];exact zzP.2 rfl
    ·rw [if_neg c]at h3;simp at h3
   ·by_cases c:x.op=12
    ·rw [if_pos c]at h3
     obtain⟨c,hc1,hc2⟩:=List.mem_map.1 h3;exact List.mem_append_right _ (List.mem_map.2 ⟨c,hc1,by rw [hc2]⟩)
    ·rw [if_neg c]at h3;simp at h3
 ·intro h
  unfold zgP at h;rcases zzk.1 h with h|h
  ·by_cases c:toB x.op=true/\(i:Int)<x.to
   ·rw [if_pos c]at h
    have e:=zzP.1 h;have h1:=hj.to c.1;refine List.mem_map.2 ⟨x.to,List.mem_filter.2 ⟨(hk _).2 ⟨?_,h1.1,h1.2⟩,?_⟩,e.symm⟩
    ·unfold zbW
     refine List.mem_append_right _ (List.mem_append_left _ ?_);rw [if_pos c.1];exact zzP.2 rfl
    ·have h28:x.op≠28:=fun e=>by rw [e]at c;exact absurd c.1 (by decide)
     unfold goB;by_cases d:(i:Int)+1<x.to
     ·rw [decide_eq_true d];rfl
     ·rw [decide_eq_false d,decide_eq_true (show x.to=(i:Int)+1 by omega),decide_eq_false h28];simp
   ·rw [if_neg c]at h;simp at h
  ·obtain⟨c,hc1,rfl⟩:=List.mem_map.1 h
   have h1:=hj.case c hc1;have h2:=hj.sel (fun e=>by rw [e]at hc1;cases hc1);refine List.mem_map.2 ⟨c.to,List.mem_filter.2 ⟨(hk _).2 ⟨?_,by omega,h1.2⟩,?_⟩,rfl⟩
   ·unfold zbW
    refine List.mem_append_right _ (List.mem_append_right _ ?_);rw [if_pos h2];exact List.mem_map.2 ⟨c,hc1,rfl⟩
   ·unfold goB
    by_cases d:(i:Int)+1<c.to
    ·rw [decide_eq_true d];rfl
    ·have e:x.cases.any (fun c'=>decide (c'.to=c.to))=true:=List.any_eq_true.2 ⟨c,hc1,zzT rfl⟩
     rw [decide_eq_false d,decide_eq_true (show c.to=(i:Int)+1 by omega),e];simp
theorem zhL {n i:Nat} {x:RIns} {k:Int} (hj:JumpOk n i x) (h:k∈zbW i x) (hi:k<=i):toB x.op=true/\k=x.to:=by
 unfold zbW at h;rcases zzk.1 h with h|h
 ·by_cases c:z7 x.op=true
  ·rw [if_pos c]at h;have:=zzP.1 h;omega
  ·rw [if_neg c]at h;simp at h
 ·rcases zzk.1 h with h|h
  ·by_cases c:toB x.op=true
   ·rw [if_pos c]at h;exact⟨c,zzP.1 h⟩
   ·rw [if_neg c]at h;simp at h
  ·by_cases c:x.op=12
   ·rw [if_pos c]at h
    obtain⟨c,hc1,hc2⟩:=List.mem_map.1 h;have:=hj.case c hc1;omega
   ·rw [if_neg c]at h;simp at h
theorem zgi {n i:Nat} {s t:VSt} {x:RIns} (hj:JumpOk n i x): ∀(ks:List Int) (M:Nat->Option VM),(∀k∈ks,k∈zbW i x) ->
  (zb3 i s t x ks M).1=(if(∃k∈ks,k<=i)/\zce (stM M x.to.toNat) s=true then 184 else 0)/\((zb3 i s t x ks M).1=0->(zb3 i s t x ks M).2=(((ks.filter (goB i x)).map Int.toNat).map (fun k=>(k,t))).foldl zX M)
 |[],M,_=>⟨by rw [if_neg (by simp)];rfl,fun _=>rfl⟩
 |k::ks,M,hks=>by
  by_cases g:goB i x k=true
  ·have hgt:=zmO g
   obtain⟨h1,h2⟩:=zgi hj ks (zX M (k.toNat,t)) (fun k' h=>hks k' (zzh _ h));have e:zb3 i s t x (k::ks) M=zb3 i s t x ks (zX M (k.toNat,t)):=by rw [zb3,if_pos g]
   rw [e];refine⟨?_,fun h0=>?_⟩
   ·rw [h1]
    by_cases c: ∃k'∈ks,k'<=(i:Int)
    ·obtain⟨k',hk',hle⟩:=c
     obtain⟨-,e2⟩:=zhL hj (hks k' (zzh _ hk')) hle
     have e3:stM (zX M (k.toNat,t)) x.to.toNat=stM M x.to.toNat:=by
      unfold stM zX;rw [if_neg (show¬x.to.toNat=k.toNat by omega)]
     rw [e3];have c1: ∃k'∈ks,k'<=(i:Int):=⟨k',hk',hle⟩;have c2: ∃k'∈k::ks,k'<=(i:Int):=⟨k',zzh _ hk',hle⟩;by_cases d:zce (stM M x.to.toNat) s=true
     ·rw [if_pos ⟨c1,d⟩,if_pos ⟨c2,d⟩]
     ·rw [if_neg (fun h=>d h.2),if_neg (fun h=>d h.2)]
    ·rw [if_neg (fun h=>c h.1),if_neg]
     rintro⟨⟨k',hk',hle⟩,-⟩;rcases List.mem_cons.1 hk' with rfl|hk'
     ·omega
     ·exact c ⟨k',hk',hle⟩
   ·rw [h2 h0,List.filter_cons_of_pos g];rfl
  ·have g':goB i x k=false:=by simpa using g
   obtain⟨h1,h2⟩:=zgi hj ks M (fun k' h=>hks k' (zzh _ h));by_cases c:k<=(i:Int)
   ·obtain⟨-,e2⟩:=zhL hj (hks k (zzg ..)) c
    by_cases d:zce (stM M k.toNat) s=true
    ·have e:zb3 i s t x (k::ks) M=(184,M):=by rw [zb3,if_neg g,if_pos ⟨c,d⟩]
     rw [e];refine⟨?_,fun h0=>absurd (show(184:Int)=0 from h0) (by decide)⟩;rw [if_pos ⟨⟨k,List.mem_cons_self ..,c⟩,by rw [<-e2];exact d⟩]
    ·have e:zb3 i s t x (k::ks) M=zb3 i s t x ks M:=by rw [zb3,if_neg g,if_neg (fun h=>d h.2)]
     rw [e];refine⟨?_,fun h0=>?_⟩
     ·rw [h1,if_neg (fun h=>d (by rw [e2];exact h.2)),if_neg (fun h=>d (by rw [e2];exact h.2))]
     ·rw [h2 h0,List.filter_cons_of_neg (by rw [g'];decide)]
   ·have e:zb3 i s t x (k::ks) M=zb3 i s t x ks M:=by rw [zb3,if_neg g,if_neg (fun h=>c h.1)]
    rw [e];refine⟨?_,fun h0=>?_⟩
    ·rw [h1]
     have e1:(∃k'∈k::ks,k'<=(i:Int))↔ ∃k'∈ks,k'<=(i:Int):=⟨fun⟨k',h,hle⟩=>(List.mem_cons.1 h).elim (fun e=>absurd hle (by rw [e];exact c)) fun h=>⟨k',h,hle⟩,fun⟨k',h,hle⟩=>⟨k',zzh _ h,hle⟩⟩;simp only [e1]
    ·rw [h2 h0,List.filter_cons_of_neg (by rw [g'];decide)]
theorem zpc {n i:Nat} {s t:VSt} {x:RIns} {ks:List Int} (hk:zhu n i x ks) (hj:JumpOk n i x) (ht:zA t.x=t.x) (hi:i<n) (M:Nat->Option VM):
  (zb3 i s t x ks M).1=(if toB x.op=true/\x.to<=i/\zce (stM M x.to.toNat) s=true then 184 else 0)/\((zb3 i s t x ks M).1=0->(zb3 i s t x ks M).2=((zgP i x).map (fun k=>(k,t))).foldl zX M):=by
 obtain⟨h1,h2⟩:=zgi (s:=s) (t:=t) hj ks M (fun k h=>((hk k).1 h).1);refine⟨?_,fun h0=>?_⟩
 ·rw [h1]
  have e:(∃k∈ks,k<=(i:Int))↔toB x.op=true/\x.to<=i:=by
   constructor
   ·rintro⟨k,hk1,hle⟩
    obtain⟨a,b⟩:=zhL hj ((hk k).1 hk1).1 hle;exact⟨a,by omega⟩
   ·rintro⟨a,b⟩
    obtain⟨c,d⟩:=hj.to a;refine⟨x.to,(hk _).2 ⟨?_,c,d⟩,b⟩;unfold zbW;refine List.mem_append_right _ (List.mem_append_left _ ?_);rw [if_pos a];exact zzP.2 rfl
  simp only [e,and_assoc]
 ·rw [h2 h0];exact znE ht (zqK hk hj) M
theorem zdV (w:World) (o0 o1:Obj):((w.alloc o0).alloc o1).heap[w.heap.size]?=some o0/\((w.alloc o0).alloc o1).heap[w.heap.size+1]?=some o1/\Below w.heap.size w ((w.alloc o0).alloc o1):=by
 have s: ∀(x:World) (o:Obj),(x.alloc o).heap.size=x.heap.size+1:=fun x o=>by simp
 have n: ∀(x:World) (o:Obj),(x.alloc o).heap[x.heap.size]?=some o:=fun x o=>zzF x o
 have k: ∀(x:World) (o:Obj) (j:Nat) (p:Obj),x.heap[j]?=some p->(x.alloc o).heap[j]?=some p:=fun x o j p h=>(Below.heap_alloc x o j (zd h)).trans h
 have e1:=n (w.alloc o0) o1;rw [s]at e1;exact⟨k _ _ _ _ (n w o0),e1,(zzE _ _).alloc (by rw [s];omega) _⟩
abbrev SkipC (b:Nat) (w:World):Prop:=
 w.cell? ⟨b,0,none⟩=some (.int .i64 39)/\w.cell? ⟨b,1,none⟩=some (.int .i64 0)/\w.cell? ⟨b,2,none⟩=some (.int .i64 0)/\w.cell? ⟨b,3,none⟩=some (.slice none 0 0)/\w.cell? ⟨b,4,none⟩=some (.int .i64 1)/\w.cell? ⟨b,5,none⟩=some (.int .i64 0)/\w.cell? ⟨b,6,none⟩=some (.int .i64 0)/\w.cell? ⟨b,7,none⟩=some (.string ⟨#[]⟩)/\w.cell? ⟨b,8,none⟩=some (.slice none 0 0)/\w.cell? ⟨b,9,none⟩=some (.slice none 0 0)
theorem SkipC.block {b:Nat} {w w':World} (h:SkipC b w) (e:w'.heap[b]?=w.heap[b]?):SkipC b w':=by
 have k: ∀i,w'.cell? ⟨b,i,none⟩=w.cell? ⟨b,i,none⟩:=fun i=>World.cell?_of_block e
 unfold SkipC;rw [k,k,k,k,k,k,k,k,k,k];exact h
theorem zjG (a:Int):zT a 0=0:=by
 unfold zT;by_cases h:a=0
 ·rw [if_pos h,h]
 ·rw [if_neg h,if_pos (.inr rfl)]
def zbZ:List Int->List Int->List Int
 |[],_=>[]
 |a::l,[]=>zT a 0::zbZ l []
 |a::l,b::m=>zT a b::zbZ l m
theorem zg5: ∀l:List Int,zbZ l []=List.replicate l.length 0
 |[]=>rfl
 |a::l=>by
  show zT a 0::zbZ l []=_;rw [zjG,zg5 l,zzq18,List.replicate_succ]
theorem zin: ∀(l m:List Int),zbZ l m=zH l m++List.replicate (l.length-m.length) 0
 |[],m=>by cases m<;>simp [zbZ,zH]
 |a::l,[]=>by
  rw [zg5];simp [zH]
 |a::l,b::m=>by
  show zT a b::zbZ l m=zT a b::zH l m++_;rw [zin l m];simp
theorem zhZ (l:List Int) (z:List Int): ∀n,n<=l.length->zbg (l++z) n=zbg l n
 |0,_=>rfl
 |n+1,h=>by
  have e:(l++z).getD n 0=l.getD n 0:=by
   rw [List.getD_eq_getElem?_getD,List.getD_eq_getElem?_getD,List.getElem?_append_left (by omega)]
  show(if(l++z).getD n 0=0 then zbg (l++z) n else n+1)=if l.getD n 0=0 then zbg l n else n+1
  rw [e,zhZ l z n (by omega)]
theorem zf3 (l:List Int) (k:Nat): ∀j,j<=k->zbg (l++List.replicate k 0) (l.length+j)=zbg l l.length
 |0,_=>zhZ l _ l.length (zzL _)
 |j+1,h=>by
  have e:(l++List.replicate k (0:Int)).getD (l.length+j) 0=0:=by
   rw [List.getD_eq_getElem?_getD,List.getElem?_append_right (by omega),List.getElem?_replicate];split<;>rfl
  show(if(l++List.replicate k (0:Int)).getD (l.length+j) 0=0 then zbg (l++List.replicate k 0) (l.length+j)else l.length+j+1)=_;rw [if_pos e];exact zf3 l k j (by omega)
theorem zia (l:List Int): ∀n,zbg l n<=n
 |0=>zzL _
 |n+1=>by
  show(if l.getD n 0=0 then zbg l n else n+1)<=n+1;split
  ·exact Nat.le_succ_of_le (zia l n)
  ·exact zzL _
theorem zjY (l:List Int) (k:Nat):zA (l++List.replicate k 0)=zA l:=by
 unfold zA;have e:(l++List.replicate k (0:Int)).length=l.length+k:=by simp
 rw [e,zf3 l k k (Nat.le_refl _),List.take_append_of_le_length (zia l _)]
theorem zkh (l m:List Int):zA (zbZ l m)=zA (zH l m):=by rw [zin,zjY]
end Go.Proofs.YthajedcbgnloeaaGreatDoor
