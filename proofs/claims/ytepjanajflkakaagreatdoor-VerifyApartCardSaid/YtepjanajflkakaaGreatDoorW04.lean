import Derived.Test.YtepjanajflkakaaGreatDoorW01
namespace Go.Proofs.YtepjanajflkakaaGreatDoor
open Go.RowKit
set_option linter.unusedVariables false
set_option linter.unusedSimpArgs false
set_option maxRecDepth 100000
set_option maxHeartbeats 0
section
variable {α:Type} {w w':World} {size:Nat} {R R':List Value->α->Prop} {b off:Nat}
def zdB (w:World) (size:Nat) (R:List Value->α->Prop) (b off:Nat) (l:List α):Prop:= ∀j (h:j<l.length),∃cs:List Value,cs.length=size/\(∀i,i<size->w.cell? ⟨b,off+j*size+i,none⟩=cs[i]?)/\R cs l[j]
theorem zbt: ∀{l:List α} {off:Nat},zdB w size R b off l->(∀cs a,R cs a-> ∀v∈cs,v.oneCell'=true)-> ∃vs:List Value,vs.length=l.length*size/\(∀k,k<l.length*size->w.cell? ⟨b,off+k,none⟩=vs[k]?)/\ ∀v∈vs,v.oneCell'=true
 |[],off,h,_=>⟨[],by simp,fun k hk=>by simp at hk,fun v hv=>by cases hv⟩
 |a::l,off,h,hR=>by
  obtain⟨cs,hl,hc,hr⟩:=h 0 (by simp)
  have h':zdB w size R b (off+size) l:=fun j hj=>by
   obtain⟨cs',g1,g2,g3⟩:=h (j+1) (by simpa using hj);refine⟨cs',g1,fun i hi=>?_,by simpa using g3⟩;rw [<-g2 i hi,show off+size+j*size+i=off+(j+1)*size+i by rw [Nat.add_mul,Nat.one_mul];omega]
  obtain⟨vs,e1,e2,e3⟩:=zbt h' hR;refine⟨cs++vs,by rw [zzq16,hl,e1,List.length_cons,Nat.add_mul,Nat.one_mul];omega,fun k hk=>?_,fun v hv=>(List.mem_append.1 hv).elim (hR _ _ hr v) (e3 v)⟩;by_cases c:k<size
  ·rw [List.getElem?_append_left (by omega),<-hc k c,Nat.zero_mul,Nat.add_zero]
  ·rw [List.getElem?_append_right (by omega),hl,<-e2 (k-size) (by rw [List.length_cons,Nat.add_mul,Nat.one_mul]at hk;omega),show off+size+(k-size)=off+k by omega]
theorem zjK {b' off':Nat} {l:List α} {vs:List Value} (h:zdB w size R b off l) (h1: ∀k,k<l.length*size->w.cell? ⟨b,off+k,none⟩=vs[k]?) (h2: ∀k,k<l.length*size->w'.cell? ⟨b',off'+k,none⟩=vs[k]?) (hR: ∀cs a,R cs a->R' cs a):zdB w' size R' b' off' l:=fun j hj=>by
 obtain⟨cs,g1,g2,g3⟩:=h j hj;refine⟨cs,g1,fun i hi=>?_,hR _ _ g3⟩
 have hk:j*size+i<l.length*size:=by
  have:(j+1)*size<=l.length*size:=Nat.mul_le_mul_right _ hj;rw [Nat.add_mul,Nat.one_mul]at this;omega
 rw [<-g2 i hi,Nat.add_assoc,h2 _ hk,<-h1 _ hk,Nat.add_assoc]
theorem SlAt.rows {ao:zzA} {l:List α} (h:SlAt w size R ao l) (hl:l≠ []): ∃b off,ao=some ⟨b,off,none⟩/\b<w.heap.size/\zdB w size R b off l:=by
 rcases h with h|h
 ·exact absurd h hl
 ·exact h
theorem zh9 {B g n cap:Nat} {e:TypeId} {xs:List Value} (h:w.ownsRow B e size (.slice (some ⟨g,0,none⟩) n cap) n xs):g<w.heap.size/\B<=g/\n<=cap/\ ∀k,k<n*size->w.cell? ⟨g,0+k,none⟩=xs[k]?:=by
 rcases h.2 with⟨h0,_⟩|⟨g',cap',cur,e1,hB,hg,h1,h2,h3,h4⟩
 ·cases h0
 ·injection e1 with e1 e2 e3
  injection e1 with e1;injection e1 with e1;subst e1;subst e3;refine⟨zb hg,hB,h1,fun k hk=>?_⟩;rw [zzq0 _ _ _ _ _ _ hg,<-h4,List.getElem?_take_of_lt (by omega),Array.getElem?_toList,Nat.zero_add]
end
theorem zgh: ∀cs a,zcB cs a-> ∀v∈cs,v.oneCell'=true:=fun cs a ⟨h,_⟩ v hv=>by subst h;simp at hv;rcases hv with rfl|rfl<;>rfl
theorem zfY: ∀cs a,zbP cs a-> ∀v∈cs,v.oneCell'=true:=fun cs a ⟨h,_⟩ v hv=>by subst h;simp at hv;rcases hv with rfl|rfl<;>rfl
theorem zgQ: ∀cs a,zcD cs a-> ∀v∈cs,v.oneCell'=true:=fun cs a ⟨h,_⟩ v hv=>by subst h;simp at hv;rcases hv with rfl|rfl|rfl|rfl|rfl|rfl<;>rfl
theorem zfO: ∀cs a,zcl cs a-> ∀v∈cs,v.oneCell'=true:=fun cs a ⟨h,_⟩ v hv=>by subst h;simp at hv;rcases hv with rfl|rfl|rfl|rfl<;>rfl
theorem zgN: ∀cs a,zbB cs a-> ∀v∈cs,v.oneCell'=true:=fun cs a ⟨h,_⟩ v hv=>by subst h;simp at hv;rcases hv with rfl|rfl|rfl<;>rfl
theorem zgl {w:World}: ∀cs a,InsR w cs a-> ∀v∈cs,v.oneCell'=true:=fun cs a ⟨⟨so,sc,co,cc,go,gc,h,_⟩,_⟩ v hv=>by subst h;simp at hv;rcases hv with rfl|rfl|rfl|rfl|rfl|rfl|rfl|rfl|rfl|rfl<;>rfl
theorem zkp {w:World} {f:Nat}: ∀cs a,TmAt w f cs a-> ∀v∈cs,v.oneCell'=true:=fun cs a h v hv=>by
 cases f with
 |zero=>exact h.elim
 |succ f=>obtain⟨⟨ao,c,h,_⟩,_⟩:=h;subst h;simp at hv;rcases hv with rfl|rfl|rfl|rfl|rfl|rfl|rfl|rfl|rfl<;>rfl
def zit:ByteArray:=⟨#[109]⟩
def zmj:ByteArray:=⟨#[102]⟩
def exU (l:List RIns):RUnit:=⟨zit,1,[],[⟨zmj,1,true,0⟩],[],l⟩
theorem zeA (n:Int) (w:World):Calls Tryz.prog 24 #[.int .i64 n] w fun e w'=>e= .returned (.agg #[.int .i64 1,.int .i64 n])/\Below w.heap.size w w':=by
 go_in;go_wp2_with fail;refine zzj (results_cell_row rfl _ _ w.heap.size _ _ _ _ rfl (zzF _ _) Tryz.underlying42 rfl (by kernel_rfl)) rfl ?_;exact⟨rfl,zzE _ _⟩
def RwsIn {α:Type} (size:Nat) (R:List Value->α->Prop):List Value->List α->Prop
 |xs,[]=>xs= []
 |xs,t::ts=> ∃cs ys,xs=cs++ys/\cs.length=size/\R cs t/\RwsIn size R ys ts
theorem RwsIn.get {α:Type} {size:Nat} {R:List Value->α->Prop}: ∀{ts:List α} {xs:List Value},RwsIn size R xs ts-> ∀j (h:j<ts.length),∃cs:List Value,cs.length=size/\(∀i,i<size->xs[j*size+i]?=cs[i]?)/\R cs ts[j]
 |[],_,_,j,h=>absurd h (zzC _)
 |t::ts,_,⟨cs,ys,a,b,c,d⟩,0,_=>⟨cs,b,fun i hi=>by rw [a,Nat.zero_mul,Nat.zero_add,List.getElem?_append_left (by omega)],c⟩
 |t::ts,_,⟨cs,ys,a,b,c,d⟩,j+1,h=>by
  obtain⟨cs',h1,h2,h3⟩:=RwsIn.get d j (by simpa using h);refine⟨cs',h1,fun i hi=>?_,h3⟩;rw [a,List.getElem?_append_right (by rw [b,Nat.succ_mul];omega),<-h2 i hi];congr 1;rw [b,Nat.succ_mul];omega
theorem zfn {α:Type} {w:World} {size b:Nat} {T:TypeId} {R:List Value->α->Prop} {xs:List Value} {l:List α} (h:w.heap[b]?=some (.cells xs.toArray T (0,0))) (hr:RwsIn size R xs l):SlAt w size R (some ⟨b,0,none⟩) l:=
 .inr ⟨b,0,rfl,zb h,fun j hj=>by
  obtain⟨cs,h1,h2,h3⟩:=hr.get j hj;exact⟨cs,h1,fun i hi=>by rw [zzq0 _ _ _ _ _ _ h,Nat.zero_add,<-h2 i hi,List.getElem?_toArray],h3⟩⟩
theorem zkO:(Tryz.prog.info? 47).map (fun i=>(i.zero,i.size,i.bytes))=some (some (.agg #[.int .i64 0,.int .i64 0,.int .i64 0,.slice none 0 0,.int .i64 0,.int .i64 0,.int .i64 0,.string ⟨#[]⟩,.slice none 0 0,.slice none 0 0]),10,136):=by kernel_rfl
theorem zd4 (w:World) (o0 o1 o2:Obj):(((w.alloc o0).alloc o1).alloc o2).heap[w.heap.size]?=some o0/\(((w.alloc o0).alloc o1).alloc o2).heap[w.heap.size+1]?=some o1 /\
  (((w.alloc o0).alloc o1).alloc o2).heap[w.heap.size+1+1]?=some o2/\Below w.heap.size w (((w.alloc o0).alloc o1).alloc o2):=by
 have s: ∀(x:World) (o:Obj),(x.alloc o).heap.size=x.heap.size+1:=fun x o=>by simp
 have n: ∀(x:World) (o:Obj),(x.alloc o).heap[x.heap.size]?=some o:=fun x o=>zzF x o
 have k: ∀(x:World) (o:Obj) (j:Nat) (p:Obj),x.heap[j]?=some p->(x.alloc o).heap[j]?=some p:=fun x o j p h=>(Below.heap_alloc x o j (zb h)).trans h
 have e1:=n (w.alloc o0) o1;rw [s]at e1;have e2:=n ((w.alloc o0).alloc o1) o2;rw [s,s]at e2;exact⟨k _ _ _ _ (k _ _ _ _ (n w o0)),k _ _ _ _ e1,e2,((zzE _ _).alloc (by rw [s];omega) _).alloc (by rw [s,s];omega) _⟩
theorem zi0 {w:World} {g:Nat} (h:w.heap[g]?=some (.cells #[] 47 (0,0))):w.ownsRow 0 47 10 (.slice (some ⟨g,0,none⟩) 0 0) 0 []:=
 ⟨by simp,.inr ⟨g,0,#[],rfl,zzZ _,h,zzL _,zzZ _,by simp,by simp⟩⟩
theorem zbE {w:World} {b:Nat} {T:TypeId} {v0 v1 v2 v3 v4 v5:Value} (h:w.heap[b]?=some (.cells #[v0,v1,v2,v3,v4,v5] T (0,0))):
  w.cell? ⟨b,0,none⟩=some v0/\w.cell? ⟨b,1,none⟩=some v1/\w.cell? ⟨b,2,none⟩=some v2/\w.cell? ⟨b,3,none⟩=some v3/\w.cell? ⟨b,4,none⟩=some v4/\w.cell? ⟨b,5,none⟩=some v5:=
 ⟨zzq0 w b 0 _ _ _ h,zzq0 w b 1 _ _ _ h,zzq0 w b 2 _ _ _ h,zzq0 w b 3 _ _ _ h,zzq0 w b 4 _ _ _ h,zzq0 w b 5 _ _ _ h⟩
theorem zlv {w:World} {b:Nat} {T:TypeId} {v0 v1 v2 v3 v4 v5:Value} (h:w.heap[b]?=some (.cells #[v0,v1,v2,v3,v4,v5] T (0,0))) (u0 u1 u2 u3 u4 u5:Value):
  ((((((w.setCell ⟨b,0,none⟩ u0).setCell ⟨b,1,none⟩ u1).setCell ⟨b,2,none⟩ u2).setCell ⟨b,3,none⟩ u3).setCell ⟨b,4,none⟩ u4).setCell ⟨b,5,none⟩ u5).heap[b]?=some (.cells #[u0,u1,u2,u3,u4,u5] T (0,0)):=by
 have a0:(World.setCell w ⟨b,0,none⟩ u0).heap[b]?=_:=zzS _ b 0 _ _ _ h
 have a1:(World.setCell _ ⟨b,1,none⟩ u1).heap[b]?=_:=zzS _ b 1 _ _ _ a0
 have a2:(World.setCell _ ⟨b,2,none⟩ u2).heap[b]?=_:=zzS _ b 2 _ _ _ a1
 have a3:(World.setCell _ ⟨b,3,none⟩ u3).heap[b]?=_:=zzS _ b 3 _ _ _ a2
 have a4:(World.setCell _ ⟨b,4,none⟩ u4).heap[b]?=_:=zzS _ b 4 _ _ _ a3
 exact zzS _ b 5 _ _ _ a4
theorem zlc {B:Nat} {w0 w:World} {b:Nat} (hb:Below B w0 w) (h:B<=b) (u0 u1 u2 u3 u4 u5:Value):
  Below B w0 ((((((w.setCell ⟨b,0,none⟩ u0).setCell ⟨b,1,none⟩ u1).setCell ⟨b,2,none⟩ u2).setCell ⟨b,3,none⟩ u3).setCell ⟨b,4,none⟩ u4).setCell ⟨b,5,none⟩ u5):=
 (((((hb.setCell (p:=⟨b,0,none⟩) h u0).setCell (p:=⟨b,1,none⟩) h u1).setCell (p:=⟨b,2,none⟩) h u2).setCell (p:=⟨b,3,none⟩) h u3).setCell (p:=⟨b,4,none⟩) h u4).setCell (p:=⟨b,5,none⟩) h u5
theorem zfV {w:World} {b q:Nat} (h:q≠b) (u0 u1 u2 u3 u4 u5:Value):
  ((((((w.setCell ⟨b,0,none⟩ u0).setCell ⟨b,1,none⟩ u1).setCell ⟨b,2,none⟩ u2).setCell ⟨b,3,none⟩ u3).setCell ⟨b,4,none⟩ u4).setCell ⟨b,5,none⟩ u5).heap[q]?=w.heap[q]?:=by
 have k: ∀(x:World) (i:Nat) (u:Value),(x.setCell ⟨b,i,none⟩ u).heap[q]?=x.heap[q]?:=fun x i u=>zzq3 _ _ _ _ h
 rw [k,k,k,k,k,k]
def zl4 (l:List RIns) (n:Nat) (e:Ending) (w':World):Prop:=
 ∃fo fc co cc,e= .returned (.agg #[.string zit,.int .i64 1,.slice none 0 0,.slice fo 1 fc,.slice none 0 0,.slice co n cc])/\UP w' (exU l) none fo none co
def zl1 (w:World) (l:List RIns) (n:Nat) (R:List Value->RIns->Prop) (e:Ending) (w':World):Prop:=
 ∃f fc g cc,e= .returned (.agg #[.string zit,.int .i64 1,.slice none 0 0,.slice (some ⟨f,0,none⟩) 1 fc,.slice none 0 0,.slice (some ⟨g,0,none⟩) n cc])/\w.heap.size<=f/\w.heap.size<=g/\SlAt w' 4 zcl (some ⟨f,0,none⟩) (exU l).funcs/\SlAt w' 10 R (some ⟨g,0,none⟩) l
theorem zlx {w:World} {l:List RIns} {fo co:zzA} (h1:SlAt w 4 zcl fo (exU l).funcs) (h2:SlAt w 10 (InsR w) co l) (h3:l.length<=100000):UP w (exU l) none fo none co:=
 ⟨.inl rfl,h1,.inl rfl,h2,by show(1:Nat)<=_;decide,by show I64 1;unfold I64;decide,by show(0:Nat)<=_;decide,by show(1:Nat)<=_;decide,by show(0:Nat)<=_;decide,by show l.length<=_;omega⟩
theorem zkH (R:List Value->RIns->Prop) (hone: ∀cs a,R cs a-> ∀v∈cs,v.oneCell'=true) (l:List RIns) (n:Nat) (hn:n=l.length) (co:zzA) (cc:Nat) (w:World) (h:SlAt w 10 R co l) (h0:l≠ []) (h1:l.length<=100000):
  Calls Tryz.prog 25 #[.slice co n cc] w fun e w'=>zl1 w l n R e w'/\Below w.heap.size w w':=by
 obtain⟨b,off,rfl,hb,hr⟩:=h.rows h0;obtain⟨vs,e1,e2,e3⟩:=zbt hr hone;obtain⟨i0,hi,hz0,hz1,hz2⟩:=info_parts zkO;obtain⟨hZ,hF,hE,hB3⟩:=zd4 w (.cells #[.string ⟨#[]⟩,.int .i64 0,.slice none 0 0,.slice none 0 0,.slice none 0 0,.slice none 0 0] 27) (.cells #[.string ⟨#[102]⟩,.int .i64 1,.bool true,.int .i64 0] 106) (.cells #[] 47);have HOWN:=zzH (zi0 hE)
 have HNEWS:Hid (∀j u,vs[j]?=some u->(((w.alloc (.cells #[.string ⟨#[]⟩,.int .i64 0,.slice none 0 0,.slice none 0 0,.slice none 0 0,.slice none 0 0] 27)).alloc (.cells #[.string ⟨#[102]⟩,.int .i64 1,.bool true,.int .i64 0] 106)).alloc (.cells #[] 47)).cell? ((⟨b,off,none⟩:Addr).add j)=some u):=zzH fun j u hj=>by
  have hjl:j<l.length*10:=by rw [<-e1];exact(List.getElem?_eq_some_iff.1 hj).1
  rw [<-hj,<-e2 j hjl,show(⟨b,off,none⟩:Addr).add j=⟨b,off+j,none⟩by simp [Addr.add]];exact hB3.cell (p:=⟨b,off+j,none⟩) hb
 have hpos:0<n:=by rw [hn];exact List.length_pos_iff.2 h0
 have h63:0+n<=maxLen:=by unfold maxLen;omega
 have hby:(0+n)*136<=140737488355328:=by omega
 refine zzK6 h63 hby hpos hB3 hZ hF fun H63 HBY HPOS HB3 HZ HF=>?_;have HR:Hid (∀w' g,(∀k,k<n*10->w'.cell? ⟨g,0+k,none⟩=vs[k]?)->Below w.heap.size w w'->g<w'.heap.size->SlAt w' 10 R (some ⟨g,0,none⟩) l):=zzH fun w' g hk hbw hg=>.inr ⟨g,0,rfl,hg,zjK hr e2 (by rw [<-hn];exact hk) (fun cs a h=>h)⟩
 rw [<-hn]at e1;refine zzK3 e1 e3 hn fun HL H1 HN=>?_;clear hr e1 e2 e3 h h0 h1 hone hb hE hF hZ hB3 h63 hby hpos hn;go_in;go_wp2_with (at_builtin;refine wpList_append_lies _ rfl (.tmp 5) (.tmp 6) 25 rfl 0 47 i0 _ 10 136 Tryz.underlying25 hi hz0 hz1 hz2 rfl (by decide) _ 0 _ rfl HOWN.out ⟨b,off,none⟩ n cc vs rfl HL.out HNEWS.out H1.out HPOS.out H63.out HBY.out (zzZ _) _ rfl ?_;intro g cap w3 ho3 hg3 hat hlt3;rw [Nat.zero_add]at ho3 ⊢;rw [List.nil_append]at ho3;have hx3:=(hg3.block w.heap.size (zb HZ.out) (fun e=>by have:w.heap.size=w.heap.size+1+1:=zzf e;omega)).trans HZ.out;obtain⟨p0,p1,p2,p3,p4,p5⟩:=zbE hx3;have z0:=zzq2 w3 w.heap.size 0 _ _ hx3;have z1:=zzq2 w3 w.heap.size 1 _ _ hx3;have z2:=zzq2 w3 w.heap.size 2 _ _ hx3;have z3:=zzq2 w3 w.heap.size 3 _ _ hx3;have z4:=zzq2 w3 w.heap.size 4 _ _ hx3;have z5:=zzq2 w3 w.heap.size 5 _ _ hx3;have HX3:=zzH hx3);have hx3:=HX3.out;refine zzj (results_cell_row rfl _ _ w.heap.size _ _ _ _ rfl (zlv hx3 _ _ _ _ _ _) Tryz.underlying27 rfl (by kernel_rfl)) rfl ?_;have hs3:=HB3.out.size;have hgne:g≠w.heap.size:=hat.elim (fun e=>by have:w.heap.size+1+1=g:=zzf e;omega) (fun e=>by rw [e];simp;omega);have hbw:=zlc (b:=w.heap.size) (HB3.out.grown hg3 hs3 (fun k e=>by have:w.heap.size+1+1=k:=zzf e;omega)) (zzL _) (.string ⟨#[109]⟩) (.int .i64 1) (.slice none 0 0) (.slice (some ⟨w.heap.size+1,0,none⟩) 1 1) (.slice none 0 0) (.slice (some ⟨g,0,none⟩) n cap);have hf:=(zfV (b:=w.heap.size) (q:=w.heap.size+1) (by omega) (.string ⟨#[109]⟩) (.int .i64 1) (.slice none 0 0) (.slice (some ⟨w.heap.size+1,0,none⟩) 1 1) (.slice none 0 0) (.slice (some ⟨g,0,none⟩) n cap)).trans ((hg3.block (w.heap.size+1) (zb HF.out) (fun e=>by have:w.heap.size+1=w.heap.size+1+1:=zzf e;omega)).trans HF.out);have hc:=(zh9 ho3).2.2.2;have hgw:w.heap.size<=g:=hat.elim (fun e=>by have:w.heap.size+1+1=g:=zzf e;omega) (fun e=>by rw [e];simp;omega);refine⟨⟨w.heap.size+1,1,g,cap,rfl,Nat.le_succ _,hgw,.inr ⟨w.heap.size+1,0,rfl,zb hf,fun j hj=>?_⟩,HR.out _ g (fun k hk=>?_) hbw (by simpa using hlt3)⟩,hbw⟩
 ·obtain rfl:j=0:=by have hj:j<1:=hj;omega
  refine⟨[.string ⟨#[102]⟩,.int .i64 1,.bool true,.int .i64 0],rfl,fun k hk=>?_,rfl,by show(1:Nat)<=_;unfold maxLen;decide,by show I64 1;unfold I64;decide,by show I64 0;unfold I64;decide⟩;rw [zzq0 _ _ _ _ _ _ hf,show 0+0*4+k=k by omega];simp
 ·rw [<-hc k hk]
  exact World.cell?_of_block (zfV hgne _ _ _ _ _ _)
theorem zeL (l:List RIns) (n:Nat) (hn:n=l.length) (co:zzA) (cc:Nat) (w:World) (h:SlAt w 10 (InsR w) co l) (h0:l≠ []) (h1:l.length<=100000):
  Calls Tryz.prog 25 #[.slice co n cc] w fun e w'=>zl4 l n e w'/\Below w.heap.size w w':=
 (zkH (InsR w) zgl l n hn co cc w h h0 h1).mono fun e w' ⟨⟨f,fc,g,cc',a1,_,_,a4,a5⟩,hb⟩=>
  ⟨⟨some ⟨f,0,none⟩,fc,some ⟨g,0,none⟩,cc',a1,zlx a4 (by rcases a5 with a5|⟨b,off,b1,b2,b3⟩;exact .inl a5;exact .inr ⟨b,off,b1,b2,fun j hj=>by obtain⟨cs,c1,c2,c3⟩:=b3 j hj;exact⟨cs,c1,c2,c3.below hb⟩⟩) h1⟩,hb⟩
def zR:List Nat->Nat
 |[]=>0
 |x::l=>x+zR l
def zv:Nat->Tm->Nat
 |0,_=>0
 |f+1,t=>300+t.items.length+zR (t.items.map (zv f))
theorem zdh (w:World) (o:Option Nat):w.grownBy w o:=⟨rfl,rfl,rfl,zzL _,fun _ _ _=>rfl⟩
theorem zbe {a b c:World} {o:Option Nat} (h:a.grownBy b o) (h':b.grownBy c o):a.grownBy c o:=
 ⟨h'.os.trans h.os,h'.tape.trans h.tape,h'.output.trans h.output,zzY h.size h'.size,fun k hk hn=>(h'.block k (zzW hk h.size) hn).trans (h.block k hk hn)⟩
theorem zef {a b:World} {o:Option Nat} (h:a.grownBy b o):a.grownBy b.drew o:=⟨h.os,h.tape,h.output,h.size,h.block⟩
theorem zT {a b:World} (h:Below a.heap.size a b) (o:Option Nat):a.grownBy b o:=⟨h.os,h.tape,h.output,h.size,fun k hk _=>h.block k hk⟩
def Ivs (lo hi:Nat) (own:Option Nat) (n:Nat) (a e:Nat->Nat):Prop:=
 ∀j,j<n->lo<=a j/\a j<=e j/\e j<=hi/\(∀g,own=some g->g<a j\/e j<=g)/\ ∀i,i<j->e i<=a j
def SlS {α:Type} (w:World) (R:Nat->Nat->List Value->α->Prop) (T:TypeId) (size lo hi:Nat) (ao:Option Addr) (l:List α):Prop:=
 l= []\/ ∃b arr a e,ao=some ⟨b,0,none⟩/\lo<=b/\b<hi/\w.heap[b]?=some (.cells arr T (0,0))/\Ivs lo hi (some b) l.length a e /\
  ∀j (h:j<l.length),∃cs:List Value,cs.length=size/\(∀i,i<size->arr[j*size+i]?=cs[i]?)/\R (a j) (e j) cs l[j]
theorem Ivs.widen {lo hi lo' hi':Nat} {own:Option Nat} {n:Nat} {a e:Nat->Nat} (h:Ivs lo hi own n a e) (h1:lo'<=lo) (h2:hi<=hi'):Ivs lo' hi' own n a e:=fun j hj=>by
 obtain⟨g1,g2,g3,g4,g5⟩:=h j hj;exact⟨zzY h1 g1,g2,zzY g3 h2,g4,g5⟩
theorem SlS.kept {α:Type} {w w':World} {R R':Nat->Nat->List Value->α->Prop} {T:TypeId} {size lo hi lo' hi':Nat} {ao:zzA} {l:List α} (h:SlS w R T size lo hi ao l)
  (hk: ∀b,lo<=b->b<hi->w'.heap[b]?=w.heap[b]?) (h1:lo'<=lo) (h2:hi<=hi') (hR: ∀a e cs t,lo<=a->e<=hi->R a e cs t->R' a e cs t):SlS w' R' T size lo' hi' ao l:=by
 rcases h with h|⟨b,arr,a,e,e1,hb1,hb2,hg,hv,hx⟩
 ·exact .inl h
 ·refine .inr ⟨b,arr,a,e,e1,zzY h1 hb1,zzW hb2 h2,(hk b hb1 hb2).trans hg,hv.widen h1 h2,fun j hj=>?_⟩
  obtain⟨cs,k1,k2,k3⟩:=hx j hj;exact⟨cs,k1,k2,hR _ _ _ _ (hv j hj).1 (hv j hj).2.2.1 k3⟩
def zca (t:Tm) (so:Option Addr) (c:Nat):List Value:=[.int .i64 t.kind,.int .i64 t.int,.int .i64 t.gen,.string t.name,.string t.func,.int .i64 t.arity,.slice so t.items.length c,.string t.bytes,.int .i64 t.bits]
def SepT (w:World):Nat->Nat->Nat->List Value->Tm->Prop
 |0,_,_,_,_=>False
 |f+1,lo,hi,cs,t=>(∃so c,cs=zca t so c/\SlS w (SepT w f) 116 9 lo hi so t.items)/\t.Ok
theorem SepT.kept {w w':World}: ∀{f lo hi lo' hi':Nat} {cs:List Value} {t:Tm},SepT w f lo hi cs t->(∀b,lo<=b->b<hi->w'.heap[b]?=w.heap[b]?)->lo'<=lo->hi<=hi'->SepT w' f lo' hi' cs t
 |0,_,_,_,_,_,_,h,_,_,_=>h
 |f+1,lo,hi,_,_,_,_,⟨⟨so,c,e,h⟩,ho⟩,hk,h1,h2=>
  ⟨⟨so,c,e,h.kept hk h1 h2 fun a e cs t ha he hx=>SepT.kept hx (fun b b1 b2=>hk b (zzY ha b1) (zzW b2 he)) (zzL _) (zzL _)⟩,ho⟩
theorem SlS.at {α:Type} {w:World} {R:Nat->Nat->List Value->α->Prop} {R':List Value->α->Prop} {T:TypeId} {size lo hi:Nat} {ao:zzA} {l:List α} (h:SlS w R T size lo hi ao l) (hR: ∀a e cs t,R a e cs t->R' cs t):SlAt w size R' ao l:=by
 rcases h with h|⟨b,arr,a,e,e1,hb1,hb2,hg,hv,hx⟩
 ·exact .inl h
 ·refine .inr ⟨b,0,e1,zb hg,fun j hj=>?_⟩
  obtain⟨cs,k1,k2,k3⟩:=hx j hj;exact⟨cs,k1,fun i hi=>by rw [zzq0 _ _ _ _ _ _ hg,Nat.zero_add,<-k2 i hi],hR _ _ _ _ k3⟩
theorem SepT.at {w:World}: ∀{f lo hi:Nat} {cs:List Value} {t:Tm},SepT w f lo hi cs t->TmAt w f cs t
 |0,_,_,_,_,h=>h
 |_+1,_,_,_,_,⟨⟨so,c,e,h⟩,ho⟩=>⟨⟨so,c,e,h.at fun _ _ _ _ hx=>SepT.at hx⟩,ho⟩
theorem SepT.len {w:World} {f lo hi:Nat} {cs:List Value} {t:Tm} (h:SepT w f lo hi cs t):cs.length=9:=by
 cases f with
 |zero=>exact h.elim
 |succ f=>obtain⟨⟨so,c,e,-⟩,-⟩:=h;rw [e];rfl
def AccS {α:Type} (w:World) (R:Nat->Nat->List Value->α->Prop) (T:TypeId) (size B:Nat) (v:Value) (l:List α):Prop:=
 ∃xs a e,w.ownsRow B T size v l.length xs/\Ivs B w.heap.size v.ownBlock l.length a e /\
  ∀j (h:j<l.length),∃cs:List Value,cs.length=size/\(∀i,i<size->xs[j*size+i]?=cs[i]?)/\R (a j) (e j) cs l[j]
theorem AccS.nil {α:Type} (w:World) (R:Nat->Nat->List Value->α->Prop) (T:TypeId) (size B:Nat):AccS w R T size B (.slice none 0 0) []:=
 ⟨[],fun _=>0,fun _=>0,World.ownsRow_nil _ _ _ _,fun j hj=>absurd hj (zzC _),fun j hj=>absurd hj (zzC _)⟩
theorem AccS.made {α:Type} {w:World} {R:Nat->Nat->List Value->α->Prop} {T:TypeId} {size B:Nat} {v:Value} (h:w.ownsRow B T size v 0 []):AccS w R T size B v ([]:List α):=
 ⟨[],fun _=>0,fun _=>0,h,fun j hj=>absurd hj (zzC _),fun j hj=>absurd hj (zzC _)⟩
theorem AccS.below {α:Type} {w w':World} {R R':Nat->Nat->List Value->α->Prop} {T:TypeId} {size B:Nat} {v:Value} {l:List α} (h:AccS w R T size B v l) (hb:Below w.heap.size w w') (hR: ∀a e cs t,e<=w.heap.size->R a e cs t->R' a e cs t):AccS w' R' T size B v l:=by
 obtain⟨xs,a,e,ho,hv,hx⟩:=h;refine⟨xs,a,e,ho.kept (zT hb none) (by cases v.ownBlock<;>simp),hv.widen (zzL _) hb.size,fun j hj=>?_⟩;obtain⟨cs,k1,k2,k3⟩:=hx j hj;exact⟨cs,k1,k2,hR _ _ _ _ (hv j hj).2.2.1 k3⟩
theorem AccS.app {α:Type} {w0 w w':World} {R R':Nat->Nat->List Value->α->Prop} {T:TypeId} {size B lo hi g cap:Nat} {v:Value} {l:List α} {cs:List Value} {t:α} {xs:List Value} {a e:Nat->Nat}
  (ho:w.ownsRow B T size v l.length xs) (hv:Ivs B w0.heap.size v.ownBlock l.length a e) (hx: ∀j (h:j<l.length),∃cs:List Value,cs.length=size/\(∀i,i<size->xs[j*size+i]?=cs[i]?)/\R (a j) (e j) cs l[j])
  (hlo:w0.heap.size<=lo) (hlh:lo<=hi) (hhi:hi<=w.heap.size) (hBw:B<=w0.heap.size) (hv0: ∀k,v.ownBlock=some k->k<w0.heap.size) (hcl:cs.length=size) (hR0:R lo hi cs t)
  (hg:w.grownBy w' v.ownBlock) (hat:v.ownBlock=some g\/g=w.heap.size) (ho':w'.ownsRow B T size (.slice (some ⟨g,0,none⟩) (l.length+1) cap) (l.length+1) (xs++cs))
  (hR: ∀a e cs t,(∀k,v.ownBlock=some k->k<a\/e<=k)->e<=w.heap.size->R a e cs t->R' a e cs t):AccS w' R' T size B (.slice (some ⟨g,0,none⟩) (l.length+1) cap) (l++ [t]):=by
 have hxl:xs.length=l.length*size:=ho.1;have hgs:=hg.size;refine⟨xs++cs,fun j=>if j<l.length then a j else lo,fun j=>if j<l.length then e j else hi,by rw [zzq16];exact ho',fun j hj=>?_,fun j hj=>?_⟩
 ·rw [zzq16,List.length_singleton]at hj
  by_cases c:j<l.length
  ·obtain⟨g1,g2,g3,g4,g5⟩:=hv j c
   simp only [c,if_true];refine⟨g1,g2,by omega,fun k hk=>?_,fun i hi=>?_⟩
   ·have hk:g=k:=zzf hk
    subst hk;rcases hat with h|h
    ·exact g4 g h
    ·right;omega
   ·rw [if_pos (by omega)];exact g5 i hi
  ·simp only [c,if_false]
   refine⟨by omega,hlh,by omega,fun k hk=>?_,fun i hi=>?_⟩
   ·have hk:g=k:=zzf hk
    subst hk;rcases hat with h|h
    ·left;have:=hv0 g h;omega
    ·right;omega
   ·by_cases c2:i<l.length
    ·rw [if_pos c2];have:=(hv i c2).2.2.1;omega
    ·omega
 ·rw [zzq16,List.length_singleton]at hj
  by_cases c:j<l.length
  ·obtain⟨cs',k1,k2,k3⟩:=hx j c
   refine⟨cs',k1,fun i hi=>?_,?_⟩
   ·have:j*size+i<l.length*size:=by
     have h5:(j+1)*size<=l.length*size:=Nat.mul_le_mul_right _ c;rw [Nat.succ_mul]at h5;omega
    rw [List.getElem?_append_left (by omega),k2 i hi]
   ·simp only [c,if_true]
    rw [List.getElem_append_left c];exact hR _ _ _ _ (hv j c).2.2.2.1 (by have:=(hv j c).2.2.1;have:=hhi;omega) k3
  ·have hjl:j=l.length:=by omega
   subst hjl;refine⟨cs,hcl,fun i hi=>?_,?_⟩
   ·rw [List.getElem?_append_right (by omega)];congr 1;omega
   ·simp only [Nat.lt_irrefl,if_false]
    rw [List.getElem_append_right (by omega)];simp only [Nat.sub_self,List.getElem_singleton];exact hR _ _ _ _ (fun k hk=>.inl (by have:=hv0 k hk;omega)) hhi hR0
theorem AccS.sl {α:Type} {w:World} {R:Nat->Nat->List Value->α->Prop} {T:TypeId} {size B:Nat} {v:Value} {l:List α} (h:AccS w R T size B v l): ∃ao c,v= .slice ao l.length c/\SlS w R T size B w.heap.size ao l:=by
 obtain⟨xs,a,e,ho,hv,hx⟩:=h;rcases ho.2 with⟨rfl,h0⟩|⟨g,cap,cur,rfl,hB,hg,h1,h2,h3,h4⟩
 ·exact⟨none,0,by rw [h0],.inl (zzQ h0)⟩
 ·refine⟨_,_,rfl,.inr ⟨g,cur,a,e,rfl,hB,zb hg,hg,hv,fun j hj=>?_⟩⟩
  obtain⟨cs,k1,k2,k3⟩:=hx j hj;refine⟨cs,k1,fun i hi=>?_,k3⟩;rw [<-k2 i hi,<-h4,<-Array.getElem?_toList,List.getElem?_take]
  have:j*size+i<l.length*size:=by
   have h5:(j+1)*size<=l.length*size:=Nat.mul_le_mul_right _ hj;rw [Nat.succ_mul]at h5;omega
  rw [if_pos this]
def setL (g:Nat):List Value->Nat->World->World
 |[],_,w=>w
 |v::l,o,w=>setL g l (o+1) (w.setCell ⟨g,o,none⟩ v)
theorem zge {B g:Nat} {w0:World} (hB:B<=g): ∀(l:List Value) (o:Nat) (w:World),Below B w0 w->Below B w0 (setL g l o w)
 |[],_,_,h=>h
 |v::l,o,w,h=>zge hB l (o+1) _ (h.setCell (p:=⟨g,o,none⟩) hB v)
theorem zcA {g q:Nat} (hq:q≠g): ∀(l:List Value) (o:Nat) (w:World),(setL g l o w).heap[q]?=w.heap[q]?
 |[],_,_=>rfl
 |v::l,o,w=>(zcA hq l (o+1) _).trans (zzq3 _ _ _ _ hq)
theorem zfQ {g:Nat}: ∀(l:List Value) (o:Nat) (w:World),(setL g l o w).heap.size=w.heap.size
 |[],_,_=>rfl
 |v::l,o,w=>(zfQ l (o+1) _).trans (by simp)
theorem zdM {g:Nat} {T:TypeId}: ∀(l:List Value) (o:Nat) (w:World) (arr:Array Value),w.heap[g]?=some (.cells arr T (0,0))->o+l.length<=arr.size ->
  ∃arr',(setL g l o w).heap[g]?=some (.cells arr' T (0,0))/\ ∀j,arr'[j]?=if o<=j/\j<o+l.length then l[j-o]? else arr[j]?
 |[],o,w,arr,h,_=>⟨arr,h,fun j=>by rw [if_neg (by simp<;>omega)]⟩
 |v::l,o,w,arr,h,hs=>by
  simp only [List.length_cons]at hs ⊢;have h1:(w.setCell ⟨g,o,none⟩ v).heap[g]?=some (.cells (arr.setIfInBounds o v) T (0,0)):=zzS _ _ o _ _ _ h
  obtain⟨arr',e1,e2⟩:=zdM l (o+1) _ _ h1 (by simp;omega);refine⟨arr',e1,fun j=>?_⟩;rw [e2 j];by_cases c:o+1<=j/\j<o+1+l.length
  ·rw [if_pos c,if_pos (by omega),show j-o=(j-(o+1))+1 by omega,List.getElem?_cons_succ]
  ·rw [if_neg c]
   by_cases d:j=o
   ·subst d
    rw [if_pos (by omega),Nat.sub_self,Array.getElem?_setIfInBounds_self_of_lt (by omega)]
    rfl
   ·rw [if_neg (by omega),Array.getElem?_setIfInBounds_ne (fun e=>d e.symm)]
def opTwo:List (List UInt8):=[[43],[42],[100,105,118],[114,101,109],[98,97,110,100],[98,111,114],[98,120,111,114],[98,115,108],[98,115,114],[97,110,100],[111,114],[120,111,114],[61,58,61],[61,47,61],[60],[61,60],[62],[62,61],[43,43]]
def zw (s:ByteArray) (n:Int):Bool:=
 if s.toList== [45]then n==1||n==2 else if s.toList== [98,110,111,116]||s.toList== [110,111,116]then n==1 else if opTwo.any (fun x=>s.toList==x)then n==2 else false
theorem zdW (s:ByteArray) (n:Int) (w:World):Calls Tryz.prog 74 #[.string s,.int .i64 n] w fun e w'=>e= .returned (.bool (zw s n))/\w=w':=by
 cases t0:(s.toList== [45])with
 |true=>
  have E:Hid (zw s n=(n==1||n==2)):=zzH (by unfold zw;rw [t0];rfl)
  cases q1:(n==1)with
  |true=>
   rw [q1]at E;exact zz57
  |false=>
   rw [q1]at E;exact zz57
 |false=>
  cases t1:(s.toList== [98,110,111,116])with
  |true=>
    have E:Hid (zw s n=(n==1)):=zzH (by unfold zw;rw [t0,t1];rfl);exact zz57
  |false=>
  cases t2:(s.toList== [110,111,116])with
  |true=>
   have E:Hid (zw s n=(n==1)):=zzH (by unfold zw;rw [t0,t1,t2];rfl);exact zz57
  |false=>
   cases t3:(s.toList== [43])with
   |true=>
     have E:Hid (zw s n=(n==2)):=zzH (by unfold zw opTwo;simp only [List.any_cons,List.any_nil,t0,t1,t2,t3,zzq8,zzq12,zzq15,zzq14,if_true];rfl);exact zz57
   |false=>
   cases t4:(s.toList== [42])with
   |true=>
    have E:Hid (zw s n=(n==2)):=zzH (by unfold zw opTwo;simp only [List.any_cons,List.any_nil,t0,t1,t2,t3,t4,zzq8,zzq12,zzq15,zzq14,if_true];rfl);exact zz57
   |false=>
    cases t5:(s.toList== [100,105,118])with
    |true=>
      have E:Hid (zw s n=(n==2)):=zzH (by unfold zw opTwo;simp only [List.any_cons,List.any_nil,t0,t1,t2,t3,t4,t5,zzq8,zzq12,zzq15,zzq14,if_true];rfl);exact zz57
    |false=>
    cases t6:(s.toList== [114,101,109])with
    |true=>
     have E:Hid (zw s n=(n==2)):=zzH (by unfold zw opTwo;simp only [List.any_cons,List.any_nil,t0,t1,t2,t3,t4,t5,t6,zzq8,zzq12,zzq15,zzq14,if_true];rfl);exact zz57
    |false=>
     cases t7:(s.toList== [98,97,110,100])with
     |true=>
       have E:Hid (zw s n=(n==2)):=zzH (by unfold zw opTwo;simp only [List.any_cons,List.any_nil,t0,t1,t2,t3,t4,t5,t6,t7,zzq8,zzq12,zzq15,zzq14,if_true];rfl);exact zz57
     |false=>
     cases t8:(s.toList== [98,111,114])with
     |true=>
      have E:Hid (zw s n=(n==2)):=zzH (by unfold zw opTwo;simp only [List.any_cons,List.any_nil,t0,t1,t2,t3,t4,t5,t6,t7,t8,zzq8,zzq12,zzq15,zzq14,if_true];rfl);exact zz57
     |false=>
      cases t9:(s.toList== [98,120,111,114])with
      |true=>
        have E:Hid (zw s n=(n==2)):=zzH (by unfold zw opTwo;simp only [List.any_cons,List.any_nil,t0,t1,t2,t3,t4,t5,t6,t7,t8,t9,zzq8,zzq12,zzq15,zzq14,if_true];rfl);exact zz57
      |false=>
      cases t10:(s.toList== [98,115,108])with
      |true=>
       have E:Hid (zw s n=(n==2)):=zzH (by unfold zw opTwo;simp only [List.any_cons,List.any_nil,t0,t1,t2,t3,t4,t5,t6,t7,t8,t9,t10,zzq8,zzq12,zzq15,zzq14,if_true];rfl);exact zz57
      |false=>
       cases t11:(s.toList== [98,115,114])with
       |true=>
         have E:Hid (zw s n=(n==2)):=zzH (by unfold zw opTwo;simp only [List.any_cons,List.any_nil,t0,t1,t2,t3,t4,t5,t6,t7,t8,t9,t10,t11,zzq8,zzq12,zzq15,zzq14,if_true];rfl);exact zz57
       |false=>
       cases t12:(s.toList== [97,110,100])with
       |true=>
        have E:Hid (zw s n=(n==2)):=zzH (by unfold zw opTwo;simp only [List.any_cons,List.any_nil,t0,t1,t2,t3,t4,t5,t6,t7,t8,t9,t10,t11,t12,zzq8,zzq12,zzq15,zzq14,if_true];rfl);exact zz57
       |false=>
        cases t13:(s.toList== [111,114])with
        |true=>
          have E:Hid (zw s n=(n==2)):=zzH (by unfold zw opTwo;simp only [List.any_cons,List.any_nil,t0,t1,t2,t3,t4,t5,t6,t7,t8,t9,t10,t11,t12,t13,zzq8,zzq12,zzq15,zzq14,if_true];rfl);exact zz57
        |false=>
        cases t14:(s.toList== [120,111,114])with
        |true=>
         have E:Hid (zw s n=(n==2)):=zzH (by unfold zw opTwo;simp only [List.any_cons,List.any_nil,t0,t1,t2,t3,t4,t5,t6,t7,t8,t9,t10,t11,t12,t13,t14,zzq8,zzq12,zzq15,zzq14,if_true];rfl);exact zz57
        |false=>
         cases t15:(s.toList== [61,58,61])with
         |true=>
           have E:Hid (zw s n=(n==2)):=zzH (by unfold zw opTwo;simp only [List.any_cons,List.any_nil,t0,t1,t2,t3,t4,t5,t6,t7,t8,t9,t10,t11,t12,t13,t14,t15,zzq8,zzq12,zzq15,zzq14,if_true];rfl);exact zz57
         |false=>
         cases t16:(s.toList== [61,47,61])with
         |true=>
          have E:Hid (zw s n=(n==2)):=zzH (by unfold zw opTwo;simp only [List.any_cons,List.any_nil,t0,t1,t2,t3,t4,t5,t6,t7,t8,t9,t10,t11,t12,t13,t14,t15,t16,zzq8,zzq12,zzq15,zzq14,if_true];rfl);exact zz57
         |false=>
          cases t17:(s.toList== [60])with
          |true=>
            have E:Hid (zw s n=(n==2)):=zzH (by unfold zw opTwo;simp only [List.any_cons,List.any_nil,t0,t1,t2,t3,t4,t5,t6,t7,t8,t9,t10,t11,t12,t13,t14,t15,t16,t17,zzq8,zzq12,zzq15,zzq14,if_true];rfl);exact zz57
          |false=>
          cases t18:(s.toList== [61,60])with
          |true=>
           have E:Hid (zw s n=(n==2)):=zzH (by unfold zw opTwo;simp only [List.any_cons,List.any_nil,t0,t1,t2,t3,t4,t5,t6,t7,t8,t9,t10,t11,t12,t13,t14,t15,t16,t17,t18,zzq8,zzq12,zzq15,zzq14,if_true];rfl);exact zz57
          |false=>
           cases t19:(s.toList== [62])with
           |true=>
             have E:Hid (zw s n=(n==2)):=zzH (by unfold zw opTwo;simp only [List.any_cons,List.any_nil,t0,t1,t2,t3,t4,t5,t6,t7,t8,t9,t10,t11,t12,t13,t14,t15,t16,t17,t18,t19,zzq8,zzq12,zzq15,zzq14,if_true];rfl);exact zz57
           |false=>
           cases t20:(s.toList== [62,61])with
           |true=>
            have E:Hid (zw s n=(n==2)):=zzH (by unfold zw opTwo;simp only [List.any_cons,List.any_nil,t0,t1,t2,t3,t4,t5,t6,t7,t8,t9,t10,t11,t12,t13,t14,t15,t16,t17,t18,t19,t20,zzq8,zzq12,zzq15,zzq14,if_true];rfl);exact zz57
           |false=>
            cases t21:(s.toList== [43,43])with
            |true=>
              have E:Hid (zw s n=(n==2)):=zzH (by unfold zw opTwo;simp only [List.any_cons,List.any_nil,t0,t1,t2,t3,t4,t5,t6,t7,t8,t9,t10,t11,t12,t13,t14,t15,t16,t17,t18,t19,t20,t21,zzq8,zzq12,zzq15,zzq14,if_true];rfl);exact zz57
            |false=>
            have E:Hid (zw s n=false):=zzH (by unfold zw opTwo;simp only [List.any_cons,List.any_nil,t0,t1,t2,t3,t4,t5,t6,t7,t8,t9,t10,t11,t12,t13,t14,t15,t16,t17,t18,t19,t20,t21,zzq8];rfl);exact zz57
def dgt (m:Nat):UInt8:=UInt8.ofNat (48+m%10)
def zdD:Nat->Nat->List UInt8
 |0,_=>[]
 |f+1,m=>if m<10 then [dgt m]else zdD f (m/10)++ [dgt m]
def dig (m:Nat):List UInt8:=zdD (m+1) m
theorem zhI: ∀(f g m:Nat),m<f->m<g->zdD f m=zdD g m
 |0,_,_,h,_=>absurd h (zzC _)
 |_,0,_,_,h=>absurd h (zzC _)
 |f+1,g+1,m,h1,h2=>by
  unfold zdD;by_cases h:m<10
  ·rw [if_pos h,if_pos h]
  ·rw [if_neg h,if_neg h,zhI f g (m/10) (by omega) (by omega)]
theorem zd2 {m:Nat} (h:m<10):dig m= [dgt m]:=by unfold dig zdD;rw [if_pos h]
theorem zhF {m:Nat} (h: ¬m<10):dig m=dig (m/10)++ [dgt m]:=by
 unfold dig;rw [show zdD (m+1) m=zdD m (m/10)++ [dgt m]by rw [zdD,if_neg h],zhI m (m/10+1) (m/10) (by omega) (by omega)]
theorem zhG: ∀(k m:Nat),m<10^(k+1)->(dig m).length<=k+1
 |0,m,h=>by rw [zd2 (by omega)];simp
 |k+1,m,h=>by
  by_cases hs:m<10
  ·rw [zd2 hs];simp
  ·have:=zhG k (m/10) (by rw [Nat.pow_succ]at h;omega)
   rw [zhF hs];simp;omega
theorem ziX {m:Nat} (h:m<=18446744073709551616):(dig m).length<=20:=zhG 19 m (by omega)
def txt (n:Int):List UInt8:=if n<0 then 45::dig n.natAbs else dig n.natAbs
def zbQ (cs:List UInt8):Array Value:=(cs.map fun b=>Value.int .u8 (b.toNat:Int)).toArray
theorem zc2 {cs:List UInt8} {j:Nat} (h:j<cs.length):(zbQ cs)[j]?=some (.int .u8 (cs[j].toNat:Int)):=by
 simp [zbQ,h]
theorem zdQ (cs:List UInt8) (j:Nat) (d:UInt8):(zbQ cs).setIfInBounds j (.int .u8 (d.toNat:Int))=zbQ (cs.set j d):=by
 simp [zbQ,List.map_set]
theorem zjw (m:Nat):((dgt m).toNat:Int)=48+(m:Int)%10:=by
 unfold dgt;have h:(UInt8.ofNat (48+m%10)).toNat=(48+m%10)%256:=UInt8.toNat_ofNat';rw [h];omega
theorem zgS (cs:List UInt8) (k:Nat) (d:UInt8) (h:k<cs.length):(cs.set k d).drop k=d::cs.drop (k+1):=by
 rw [List.drop_eq_getElem_cons (by simpa using h),List.drop_set_of_lt (by omega)];simp
theorem zmc (j:Nat):(10:Nat)^(j+1)=10^j*10:=Nat.pow_succ ..
theorem zky (a:Int) (w:World) (ha:I64 a):
  Calls Tryz.prog 159 #[.int .i64 a] w fun e w'=>e= .returned (.int .u64 a.natAbs)/\w=w':=by
 obtain⟨a1,a2⟩:=ha;go_in;go_wp2
 ·go_ret
  exact⟨zcp (by
    have:a<0:=by assumption
    rw [IntKind.wrap_u64,IntKind.wrap_u64];omega),rfl⟩
 ·go_ret
  exact⟨zcp (by
    have:0<=a:=by assumption
    omega),rfl⟩
theorem zhx (B:Nat) (l:Int) (k:Nat) (hl:l=k) (hk:k<20) (w:World):
  (Instr.sliceAt 212 (.pointer (some ⟨B,0,none⟩)) (some (.int .i64 l)) none none).run Tryz.prog w= .ok (.slice (some ⟨B,k,none⟩) (20-k) (20-k)) w:=by
 subst hl;have e:Tryz.prog.arrayLen 212=20:=by kernel_rfl
 have ee:Tryz.prog.elem 212=5:=by kernel_rfl
 rw [run_sliceAt_array_l w 212 ⟨B,0,none⟩ (by rw [e,ee];exact Tryz.underlying212) .i64 k (by omega) (by rw [e];omega),e,ee];simp [go_sem,slicedAt,Addr.add];rw [if_neg (by omega)];split<;>simp_all
theorem zi2 (B k L:Nat) (hL:L=20-k) (l cs:List UInt8) (w:World) (hh:w.heap[B]?=some (.cells (zbQ cs) 212 (0,0))) (hl:cs.length=20) (e:l=cs.drop k):
  (convert 201 9 (.slice (some ⟨B,k,none⟩) L L)).run Tryz.prog w= .ok (.string ⟨l.toArray⟩) w:=by
 subst e hL
 have:=run_convert_bytes_back (P:=Tryz.prog) w 201 9 5 ⟨B,k,none⟩ (20-k) (cs.drop k) Tryz.underlying201 Tryz.underlying5 Tryz.underlying9 (fun j hj=>by
  have hp:(⟨B,k,none⟩:Addr).add j=⟨B,k+j,none⟩:=by unfold Addr.add;split<;>simp_all
  rw [hp,zzq0 _ _ _ _ _ _ hh,zc2 (by simp at hj;omega)];simp)
 rw [List.length_drop,hl]at this;exact this
theorem zj0 (n:Int) (w:World) (hn:I64 n):
  Calls Tryz.prog 126 #[.int .i64 n] w fun e w'=>e= .returned (.string ⟨(txt n).toArray⟩)/\Below w.heap.size w w':=by
 go_in;go_wp2_with (go_at_call 159;refine(zky _ _ hn).mono ?_;rintro e w1 ⟨rfl,rfl⟩);go_loopw [4,5] (fun v l wr=> ∃(k m:Nat) (cs:List UInt8),v= .int .i64 k/\l= .int .u64 m/\2<=k/\k<=20/\m<10^(k-1)/\m<=9223372036854775808/\cs.length=20/\wr.heap[w.heap.size]?=some (.cells (zbQ cs) 212 (0,0))/\Below w.heap.size w wr/\Hid (dig n.natAbs=dig m++cs.drop k)) (fun v _ _=>(intOf v).toNat)
 case atStart=>exact⟨20,n.natAbs,List.replicate 20 0,rfl,rfl,by omega,by omega,by have:=hn.1;have:=hn.2;omega,by have:=hn.1;have:=hn.2;omega,rfl,zzF _ _,zzE _ _,by simp [Hid]⟩
 case round=>
  obtain⟨k,m,cs,rfl,rfl,hk1,hk2,hm,hm2,hl,hh,hB,HD⟩:=hrel;obtain⟨j,rfl⟩: ∃j,k=j+2:=⟨k-2,by omega⟩;rename World=>wr
  have HM:=zzH hm;clear hm;have HL:=zzH hl;clear hl;have hcell:wr.cell? ⟨w.heap.size,j+1,none⟩=some (.int .u8 (cs[j+1]'(by rw [HL.out];omega)).toNat):=by rw [zzq0 _ _ _ _ _ _ hh];exact zc2 _
  have hcell0:wr.cell? ⟨w.heap.size,j,none⟩=some (.int .u8 (cs[j]'(by rw [HL.out];omega)).toNat):=by rw [zzq0 _ _ _ _ _ _ hh];exact zc2 _
  have hfz0:wr.frozen? ⟨w.heap.size,j,none⟩=false:=zzq2 _ _ _ _ _ hh;have hfz:wr.frozen? ⟨w.heap.size,j+1,none⟩=false:=zzq2 _ _ _ _ _ hh
  have hh1:(wr.setCell ⟨w.heap.size,j+1,none⟩ (.int .u8 (48+(m:Int)%10))).heap[w.heap.size]?=some (.cells (zbQ (cs.set (j+1) (dgt m))) 212 (0,0)):=by
   rw [heap_setCell_same _ _ _ _ _ _ hh,<-zjw,zdQ]
  have hd1:(cs.set (j+1) (dgt m)).drop (j+1)=dgt m::cs.drop (j+2):=zgS _ _ _ (by rw [HL.out];omega);have hl1:(cs.set (j+1) (dgt m)).length=20:=by rw [List.length_set];exact HL.out
  have hB1:Below w.heap.size w (wr.setCell ⟨w.heap.size,j+1,none⟩ (.int .u8 (48+(m:Int)%10))):=hB.setCell (zzL _) _;refine zzK4 hh hh1 hd1 hl1 fun HH HH1 HD1 HL1=>?_;clear hh hh1 hd1 hl1;by_cases small:m<10
  ·have hdm:=zd2 small
   have HDM:=zzH hdm;clear hdm;have HT:Hid (dig n.natAbs=dgt m::cs.drop (j+2)):=by have:=HD.out;rw [HDM.out]at this;exact this
   by_cases neg:n<0
   ·have hh2:((wr.setCell ⟨w.heap.size,j+1,none⟩ (.int .u8 (48+(m:Int)%10))).setCell ⟨w.heap.size,j,none⟩ (.int .u8 45)).heap[w.heap.size]?=some (.cells (zbQ ((cs.set (j+1) (dgt m)).set j 45)) 212 (0,0)):=by
     exact(zzS _ _ _ _ _ _ HH1.out).trans (congrArg (fun x=>some (Obj.cells x 212 (0,0))) (zdQ _ j 45))
    have hcv:=zi2 w.heap.size j (20-j) rfl (txt n) _ _ hh2 (by rw [List.length_set];exact HL1.out) (by rw [zgS _ _ _ (by rw [HL1.out];omega),HD1.out,txt,if_pos neg,HT.out]);have hsl:=zhx w.heap.size ((j:Int)+2-1-1) j (by omega) (by omega);clear hh2;go_wp2;go_ret;exact⟨rfl,hB1.setCell (zzL _) _⟩
   ·have hcv:=zi2 w.heap.size (j+1) (19-j) (by omega) (txt n) _ _ HH1.out HL1.out (by rw [HD1.out,txt,if_neg neg,HT.out])
    have hsl:=zhx w.heap.size ((j:Int)+2-1) (j+1) (by omega) (by omega);go_wp2;go_ret;exact⟨rfl,hB1⟩
  ·have hdm:=zhF small
   have HDM:=zzH hdm;clear hdm;go_wp2;go_roundw
   case rel=>
    have hj:1<=j:=by
     rcases Nat.eq_zero_or_pos j with h|h
     ·have:=HM.out;subst h;omega
     ·exact h
    refine⟨j+1,m/10,cs.set (j+1) (dgt m),by go_num,by go_num,by omega,by omega,?_,by omega,HL1.out,HH1.out,hB1,?_⟩
    ·have:=HM.out
     obtain⟨i,rfl⟩: ∃i,j=i+1:=⟨j-1,by omega⟩;rw [show i+1+2-1=i+1+1 by omega,zmc]at this;rw [show i+1+1-1=i+1 by omega];omega
    ·exact zzH (by rw [HD.out,HDM.out,HD1.out,List.append_assoc];rfl)
   case measure=>simp [intOf];omega
open Go.RowKit Go.Maps Go.WideMaps
theorem ziL:Keyed Tryz.prog 9:=string_keyed Tryz.underlying9
theorem zlt (w:World):(zeroValue 3).run Tryz.prog w= .ok (.int .i64 0) w:=by kernel_rfl
def ze7 (t:List UInt8->Int) (k:List UInt8) (c:Int):List UInt8->Int:=fun x=>if x=k then c else t x
def zbM (c:Int) (ws:List (List UInt8)) (t:List UInt8->Int):List UInt8->Int:=ws.foldl (fun t k=>ze7 t k c) t
def zcs (w:World) (M n:Nat) (t:List UInt8->Int):Prop:= ∃D:DataW Unit,w.ownsMap Tryz.prog 9 (plainElem Tryz.prog 3) M n D/\ ∀k:List UInt8,D.atKey (.string k) (.lit (.int .i64 0))= .lit (.int .i64 (t k))
theorem ziT (k:List UInt8):WideAt.IsKeyLit (.string k):=by unfold WideAt.IsKeyLit;simp
theorem zjR {D:DataW Unit} {t:List UInt8->Int} (hD:IsMap D) (h: ∀k:List UInt8,D.atKey (.string k) (.lit (.int .i64 0))= .lit (.int .i64 (t k))) (x:List UInt8) (c:Int):
  ∀k:List UInt8,(D.put (.string x) (.lit (.int .i64 c))).atKey (.string k) (.lit (.int .i64 0))= .lit (.int .i64 (ze7 t x c k)):=by
 intro k;unfold ze7;by_cases e:k=x
 ·rw [if_pos e,e,atKey_put_same hD (ziT x)]
 ·rw [if_neg e,atKey_put_other (by intro h2;injection h2 with h2;exact e h2)];exact h k
theorem zht (c:Int) (ws:List (List UInt8)) (t:List UInt8->Int) {k:Nat} (h:k<ws.length):zbM c (ws.take (k+1)) t=ze7 (zbM c (ws.take k) t) ws[k] c:=by
 unfold zbM;rw [List.take_add_one,zzq4 h,List.foldl_append];rfl
theorem zel (c:Int) (s:ByteArray) (ws:List (List UInt8)) (B C M n:Nat) (t:List UInt8->Int) (w:World) (hws:Lib.fields s.data.toList=ws) (hc0:0<=c) (hc1:c<=10) (hs:s.size<4294967281) (hwl: ∀x∈ws,x.length<=1000) (hwn:ws.length<=1000) (hn:n<=1000000)
  (hascii: ∀(j:Nat) b,s.data.toList[j]?=some b->b.toNat<128) (htab:Lib.TabIs Tryz.prog w "strings.asciiSpace" .u8 Lib.asciiSpaceTab)
  (hB:B<=w.heap.size) (hBC:B<=C) (hBM:B<=M) (hCM:C≠M) (hC:w.heap[C]?=some (.cells #[.map (some M)] 186 (0,0))) (hM:zcs w M n t):
  Calls Tryz.prog 157 #[.int .i64 c,.string s,.pointer (some ⟨C,0,none⟩)] w fun e w'=>e= .returned (.tuple #[])/\zcs w' M (n+ws.length) (zbM c ws t)/\w'.heap[C]?=some (.cells #[.map (some M)] 186 (0,0))/\Below B w w':=by
 have HF:=fun w' h=>Tryz.strings_Fields s w' hs hascii h
 rw [hws]at HF;have HTab:=zzH htab;clear htab hws;have hMl:M<w.heap.size:=by obtain⟨D,h,_⟩:=hM;exact h.lt
 have hCl:=zb hC;go_in;go_wp2_with (go_at_call 158;refine(HF _ HTab.out).mono ?_;rintro e w1 ⟨rfl,rfl⟩);have hWd:=zzF w (.cells (ws.map fun l=>Value.string ⟨l.toArray⟩).toArray 9);have hC1:=(Below.heap_alloc w (.cells (ws.map fun l=>Value.string ⟨l.toArray⟩).toArray 9) C hCl).trans hC;have hB1:Below B w (w.alloc (.cells (ws.map fun l=>Value.string ⟨l.toArray⟩).toArray 9)):=(zzR _ _).alloc hB _
 have hM1:zcs (w.alloc (.cells (ws.map fun l=>Value.string ⟨l.toArray⟩).toArray 9)) M n t:=by
  obtain⟨D,h,h2⟩:=hM;exact⟨D,h.alloc _,h2⟩
 generalize hW:w.alloc (.cells (ws.map fun l=>Value.string ⟨l.toArray⟩).toArray 9)=W at *;generalize hb:w.heap.size=b at *;go_loopw [10] (fun i wr=> ∃k:Nat,k<=ws.length/\i= .int .i64 k/\zcs wr M (n+k) (zbM c (ws.take k) t)/\wr.heap[C]?=some (.cells #[.map (some M)] 186 (0,0))/\wr.heap[b]?=some (.cells (ws.map fun l=>Value.string ⟨l.toArray⟩).toArray 9 (0,0))/\Below B w wr) (fun i _=>ws.length-(intOf i).toNat)
 case atStart=>exact⟨0,zzZ _,rfl,hM1,hC1,hWd,hB1⟩
 case round=>
  obtain⟨k,hk,rfl,⟨D,hown,hD⟩,hCr,hbr,hBr⟩:=hrel;rename World=>wr
  by_cases hlt:k<ws.length
  ·have hcw:wr.cell? ⟨b,k,none⟩=some (.string ⟨ws[k].toArray⟩):=by rw [zzq0 _ _ _ _ _ _ hbr];simp [hlt]
   have hcC:wr.cell? ⟨C,0,none⟩=some (.map (some M)):=by rw [zzq0 _ _ _ _ _ _ hCr];rfl
   have hkey:keyOf Tryz.prog 9 (.string ⟨ws[k].toArray⟩)=some (.string ws[k]):=by
    have:=hwl _ (zzM hlt);exact keyOf_string_mk Tryz.underlying9 (by unfold maxLen;simp [ByteArray.size];omega)
   have hDM:=hown.isMap;have HP:=zzH (zjR hDM hD ws[k] c);have HS:=zzH (zht c ws t hlt);have hkl:=hwl _ (zzM hlt);generalize ws[k]=x at *
   go_wp2_with (first
    |(at_mapUpdate;refine wpList_mapUpdate_own _ rfl _ _ _ 186 rfl 9 3 ziL Tryz.underlying186 _ M (n+k) _ rfl hown (by unfold maxLen;omega) _ _ _ rfl rfl hkey _ [] (plainElem_int Tryz.underlying3 (WalkArith.wf_i64 (by omega))) ?_)
    |fail)
   intro w1 hown1 hgrow1;have hM2:zcs w1 M (n+(k+1)) (zbM c (ws.take (k+1)) t):=⟨_,hown1,by rw [HS.out];exact HP.out⟩;have hC2:w1.heap[C]?=some (.cells #[.map (some M)] 186 (0,0)):=(hgrow1.block C (zb hCr) (fun e=>hCM (zzf e))).trans hCr
   have hb2:w1.heap[b]?=some (.cells (ws.map fun l=>Value.string ⟨l.toArray⟩).toArray 9 (0,0)):=(hgrow1.block b (zb hbr) (fun e=>by have:=zzf e;omega)).trans hbr
   have hB2:Below B w w1:=hBr.grown hgrow1 (by have:=hBr.size;omega) (fun j hj=>by cases hj;exact hBM);clear hown1 hgrow1 hown hcw hcC;go_wp2_with fail;go_roundw
   case rel=>exact⟨k+1,by omega,by go_num,hM2,hC2,hb2,hB2⟩
   case measure=>simp [intOf];omega
  ·obtain rfl:k=ws.length:=by omega
   have hMF:zcs wr M (n+ws.length) (zbM c ws t):=⟨D,hown,by rw [List.take_length]at hD;exact hD⟩;clear hown;go_wp2_with fail
   (try simp only [Exit.inBlock,Exit.then])
   go_end0;exact⟨rfl,hMF,hCr,hBr⟩
open Go.RowKit Go.Maps Go.WideMaps
def zeO:List (List UInt8):=[[105,115,95,105,110,116,101,103,101,114,47,49],[105,115,95,97,116,111,109,47,49],[105,115,95,98,111,111,108,101,97,110,47,49],[105,115,95,116,117,112,108,101,47,49],[105,115,95,112,105,100,47,49],[105,115,95,114,101,102,47,49],[105,115,95,108,105,115,116,47,49],[105,115,95,98,105,116,115,47,49],[105,115,95,98,121,116,101,115,47,49],[105,115,95,102,117,110,47,49],[105,115,95,102,117,110,47,50],[101,108,101,109,101,110,116,47,50],[115,105,122,101,47,49],[104,100,47,49],[116,108,47,49],[108,101,110,103,116,104,47,49],[98,105,116,95,115,105,122,101,47,49],[98,121,116,101,95,115,105,122,101,47,49],[97,98,115,47,49],[109,105,110,47,50],[109,97,120,47,50],[115,101,108,102,47,48],[110,111,100,101,47,48],[110,111,100,101,47,49]]
def zhJ:List UInt8:=[105,115,95,105,110,116,101,103,101,114,47,49,32,105,115,95,97,116,111,109,47,49,32,105,115,95,98,111,111,108,101,97,110,47,49,32,105,115,95,116,117,112,108,101,47,49,32,105,115,95,112,105,100,47,49,32,105,115,95,114,101,102,47,49,32,105,115,95,108,105,115,116,47,49,32,105,115,95,98,105,116,115,47,49,32,105,115,95,98,121,116,101,115,47,49,32,105,115,95,102,117,110,47,49,32,105,115,95,102,117,110,47,50,32,101,108,101,109,101,110,116,47,50,32,115,105,122,101,47,49,32,104,100,47,49,32,116,108,47,49,32,108,101,110,103,116,104,47,49,32,98,105,116,95,115,105,122,101,47,49,32,98,121,116,101,95,115,105,122,101,47,49,32,97,98,115,47,49,32,109,105,110,47,50,32,109,97,120,47,50,32,115,101,108,102,47,48,32,110,111,100,101,47,48,32,110,111,100,101,47,49]
def zfe:List (List UInt8):=[[115,101,116,101,108,101,109,101,110,116,47,51],[116,111,95,108,105,115,116,47,49],[116,111,95,116,117,112,108,101,47,49],[116,111,95,98,121,116,101,115,47,49],[102,114,111,109,95,98,121,116,101,115,47,49],[114,101,118,101,114,115,101,47,49],[109,101,109,98,101,114,47,50],[115,111,114,116,47,49],[112,97,99,107,47,49],[117,110,112,97,99,107,47,49],[101,114,114,111,114,47,49],[101,120,105,116,47,49],[116,104,114,111,119,47,49],[114,97,105,115,101,47,50]]
def zhC:List UInt8:=[115,101,116,101,108,101,109,101,110,116,47,51,32,116,111,95,108,105,115,116,47,49,32,116,111,95,116,117,112,108,101,47,49,32,116,111,95,98,121,116,101,115,47,49,32,102,114,111,109,95,98,121,116,101,115,47,49,32,114,101,118,101,114,115,101,47,49,32,109,101,109,98,101,114,47,50,32,115,111,114,116,47,49,32,112,97,99,107,47,49,32,117,110,112,97,99,107,47,49,32,101,114,114,111,114,47,49,32,101,120,105,116,47,49,32,116,104,114,111,119,47,49,32,114,97,105,115,101,47,50]
def ze4:List (List UInt8):=[[115,112,97,119,110,47,49],[115,112,97,119,110,47,51],[115,112,97,119,110,95,108,105,110,107,47,49],[115,112,97,119,110,95,108,105,110,107,47,51],[115,112,97,119,110,95,109,111,110,105,116,111,114,47,49],[115,112,97,119,110,95,109,111,110,105,116,111,114,47,51],[114,101,113,117,101,115,116,47,52],[108,105,110,107,47,49],[117,110,108,105,110,107,47,49],[109,111,110,105,116,111,114,47,49],[100,101,109,111,110,105,116,111,114,47,49],[101,120,105,116,47,50],[116,114,97,112,47,49],[112,114,105,111,114,105,116,121,47,49],[114,101,103,105,115,116,101,114,47,50],[117,110,114,101,103,105,115,116,101,114,47,49],[119,104,101,114,101,105,115,47,49],[115,101,110,100,95,97,102,116,101,114,47,51],[99,97,110,99,101,108,47,49],[109,97,107,101,95,114,101,102,47,48],[99,108,111,99,107,47,48],[115,97,121,47,49],[110,111,100,101,115,47,48],[119,97,116,99,104,47,49],[117,110,119,97,116,99,104,47,49],[116,97,98,95,110,101,119,47,49],[116,97,98,95,112,117,116,47,51],[116,97,98,95,103,101,116,47,50],[116,97,98,95,100,101,108,47,50],[116,97,98,95,110,101,120,116,47,50],[116,97,98,95,115,105,122,101,47,49],[116,97,98,95,100,114,111,112,47,49]]
def zhE:List UInt8:=[115,112,97,119,110,47,49,32,115,112,97,119,110,47,51,32,115,112,97,119,110,95,108,105,110,107,47,49,32,115,112,97,119,110,95,108,105,110,107,47,51,32,115,112,97,119,110,95,109,111,110,105,116,111,114,47,49,32,115,112,97,119,110,95,109,111,110,105,116,111,114,47,51,32,114,101,113,117,101,115,116,47,52,32,108,105,110,107,47,49,32,117,110,108,105,110,107,47,49,32,109,111,110,105,116,111,114,47,49,32,100,101,109,111,110,105,116,111,114,47,49,32,101,120,105,116,47,50,32,116,114,97,112,47,49,32,112,114,105,111,114,105,116,121,47,49,32,114,101,103,105,115,116,101,114,47,50,32,117,110,114,101,103,105,115,116,101,114,47,49,32,119,104,101,114,101,105,115,47,49,32,115,101,110,100,95,97,102,116,101,114,47,51,32,99,97,110,99,101,108,47,49,32,109,97,107,101,95,114,101,102,47,48,32,99,108,111,99,107,47,48,32,115,97,121,47,49,32,110,111,100,101,115,47,48,32,119,97,116,99,104,47,49,32,117,110,119,97,116,99,104,47,49,32,116,97,98,95,110,101,119,47,49,32,116,97,98,95,112,117,116,47,51,32,116,97,98,95,103,101,116,47,50,32,116,97,98,95,100,101,108,47,50,32,116,97,98,95,110,101,120,116,47,50,32,116,97,98,95,115,105,122,101,47,49,32,116,97,98,95,100,114,111,112,47,49]
def zeQ:List (List UInt8):=[[97,112,112,108,121,47,50],[97,112,112,108,121,47,51]]
def zhK:List UInt8:=[97,112,112,108,121,47,50,32,97,112,112,108,121,47,51]
def zdV:List UInt8->Int:=zbM 4 zeQ (zbM 3 ze4 (zbM 2 zfe (zbM 1 zeO (fun _=>0))))
theorem zdP {l:List UInt8} (h:l.all (fun b=>decide (b.toNat<128))=true): ∀(j:Nat) b,l[j]?=some b->b.toNat<128:=fun j b hb=>by
 have:=zzp.1 h b (List.mem_of_getElem? hb)
 simpa using this
theorem zek {ws:List (List UInt8)} (h:ws.all (fun x=>decide (x.length<=1000))=true): ∀x∈ws,x.length<=1000:=fun x hx=>by
 have:=zzp.1 h x hx
 simpa using this
theorem zjm:Lib.fields zhJ=zeO:=by kernel_rfl
theorem ziH:Lib.fields zhC=zfe:=by kernel_rfl
theorem zjf:Lib.fields zhE=ze4:=by kernel_rfl
theorem zi1:Lib.fields zhK=zeQ:=by kernel_rfl
def SpaceAt (w:World):Prop:=Lib.TabIs Tryz.prog w "strings.asciiSpace" .u8 Lib.asciiSpaceTab
theorem SpaceAt.below {w w':World} (h:SpaceAt w) (hb:Below w.heap.size w w'):SpaceAt w':=Joins.tab_stays (g:=1) (by kernel_rfl) h hb (zzL _)
theorem zhn (w:World) (hsp:SpaceAt w):Calls Tryz.prog 125 #[] w fun e w'=> ∃M,e= .returned (.map (some M))/\zcs w' M 72 zdV/\Below w.heap.size w w':=by
 have hmm:= @run_makeMap Tryz.prog;have HS:=zzH hsp;go_in;go_wp2_with fail
 have hC0:((w.alloc (.map #[] 0)).alloc (.cells #[.map (some w.heap.size)] 186)).heap[w.heap.size+1]?=some (.cells #[.map (some w.heap.size)] 186 (0,0)):=by
  have h:=zzF (w.alloc (.map #[] 0)) (.cells #[.map (some w.heap.size)] 186)
  rwa [show(w.alloc (.map #[] 0)).heap.size=w.heap.size+1 by simp]at h
 have hM0:zcs ((w.alloc (.map #[] 0)).alloc (.cells #[.map (some w.heap.size)] 186)) w.heap.size 0 (fun _=>0):=⟨_,(World.ownsMap_made _ _ _ _).alloc _,fun k=>rfl⟩;have hB0:Below w.heap.size w ((w.alloc (.map #[] 0)).alloc (.cells #[.map (some w.heap.size)] 186)):=(zzE _ _).alloc (by simp) _;have hS0:=zzH (hsp.below hB0);have hsz:w.heap.size<=((w.alloc (.map #[] 0)).alloc (.cells #[.map (some w.heap.size)] 186)).heap.size:=hB0.size;generalize(w.alloc (.map #[] 0)).alloc (.cells #[.map (some w.heap.size)] 186)=w0 at *;clear hmm;refine(zel 1 _ zeO w.heap.size (w.heap.size+1) w.heap.size 0 (fun _=>0) w0 zjm (by decide) (by decide) (by decide) (zek (by kernel_rfl)) (by decide) (by decide) (zdP (l:=zhJ) (by kernel_rfl)) hS0.out hsz (by omega) (zzL _) (by omega) hC0 hM0).mono ?_;rintro e w1 ⟨rfl,hM1,hC1,hB1'⟩;have hB1:Below w.heap.size w w1:=hB0.trans hB1';have hsz1:w.heap.size<=w1.heap.size:=hB1.size;have hS1:=zzH (hsp.below hB1);change zcs w1 w.heap.size 24 _ at hM1;generalize ht1:zbM 1 zeO (fun _=>0)=t1 at hM1;have HT1:=zzH ht1;clear ht1 hM0 hC0 hB1' hB0 hsz;go_wp2_with fail;refine(zel 2 _ zfe w.heap.size (w.heap.size+1) w.heap.size 24 t1 w1 ziH (by decide) (by decide) (by decide) (zek (by kernel_rfl)) (by decide) (by decide) (zdP (l:=zhC) (by kernel_rfl)) hS1.out hsz1 (by omega) (zzL _) (by omega) hC1 hM1).mono ?_;rintro e w2 ⟨rfl,hM2,hC2,hB2'⟩;have hB2:Below w.heap.size w w2:=hB1.trans hB2';have hsz2:w.heap.size<=w2.heap.size:=hB2.size;have hS2:=zzH (hsp.below hB2);change zcs w2 w.heap.size 38 _ at hM2;generalize ht2:zbM 2 zfe t1=t2 at hM2;have HT2:=zzH ht2;clear ht2 hM1 hC1 hB2' hB1 hsz1;go_wp2_with fail;refine(zel 3 _ ze4 w.heap.size (w.heap.size+1) w.heap.size 38 t2 w2 zjf (by decide) (by decide) (by decide) (zek (by kernel_rfl)) (by decide) (by decide) (zdP (l:=zhE) (by kernel_rfl)) hS2.out hsz2 (by omega) (zzL _) (by omega) hC2 hM2).mono ?_;rintro e w3 ⟨rfl,hM3,hC3,hB3'⟩;have hB3:Below w.heap.size w w3:=hB2.trans hB3';have hsz3:w.heap.size<=w3.heap.size:=hB3.size;have hS3:=zzH (hsp.below hB3);change zcs w3 w.heap.size 70 _ at hM3;generalize ht3:zbM 3 ze4 t2=t3 at hM3;have HT3:=zzH ht3;clear ht3 hM2 hC2 hB3' hB2 hsz2;go_wp2_with fail;refine(zel 4 _ zeQ w.heap.size (w.heap.size+1) w.heap.size 70 t3 w3 zi1 (by decide) (by decide) (by decide) (zek (by kernel_rfl)) (by decide) (by decide) (zdP (l:=zhK) (by kernel_rfl)) hS3.out hsz3 (by omega) (zzL _) (by omega) hC3 hM3).mono ?_;rintro e w4 ⟨rfl,hM4,hC4,hB4'⟩;have hB4:Below w.heap.size w w4:=hB3.trans hB4';have hsz4:w.heap.size<=w4.heap.size:=hB4.size;have hS4:=zzH (hsp.below hB4);change zcs w4 w.heap.size 72 _ at hM4;generalize ht4:zbM 4 zeQ t3=t4 at hM4;have HT4:=zzH ht4;clear ht4 hM3 hC3 hB4' hB3 hsz3;have hc4:w4.cell? ⟨w.heap.size+1,0,none⟩=some (.map (some w.heap.size)):=by rw [zzq0 _ _ _ _ _ _ hC4];rfl
 go_wp2;go_ret;have e:zdV=t4:=by unfold zdV;rw [HT1.out,HT2.out,HT3.out,HT4.out]
 exact⟨_,rfl,by rw [e];exact hM4,hB4⟩
def zbs (s:ByteArray) (n:Int):Int:=if n<0\/0<=Lib.indexByte s.data.toList 47 then 0 else zdV (s.data.toList++ [47]++txt n)
theorem zk8 {n:Int} (h:I64 n):(txt n).length<=21:=by
 unfold I64 at h;have:=ziX (m:=n.natAbs) (by omega);unfold txt;split<;>simp<;>omega
theorem zdY (s:ByteArray) (n:Int) (w:World) (hsp:SpaceAt w) (hs:s.size<=140737488355328) (hn:I64 n):Calls Tryz.prog 75 #[.string s,.int .i64 n] w fun e w'=>e= .returned (.int .i64 (zbs s n))/\Below w.heap.size w w':=by
 by_cases hneg:n<0
 ·have E:Hid (zbs s n=0):=zzH (by unfold zbs;rw [if_pos (.inl hneg)])
  go_in;go_wp2;go_ret;exact⟨zcp E.out.symm,zzR _ _⟩
 ·have HC:=Tryz.strings_Contains_one s 47
  by_cases hsl:0<=Lib.indexByte s.data.toList 47
  ·have E:Hid (zbs s n=0):=zzH (by unfold zbs;rw [if_pos (.inr hsl)])
   rw [decide_eq_true hsl]at HC;go_in;go_wp2_with (go_at_call 124;refine(HC _).mono ?_;rintro e w1 ⟨rfl,rfl⟩);go_ret;exact⟨zcp E.out.symm,zzR _ _⟩
  ·have E:Hid (zbs s n=zdV (s.data.toList++ [47]++txt n)):=zzH (by unfold zbs;rw [if_neg (by omega)])
   rw [decide_eq_false hsl]at HC;have HL:=zzH (zk8 hn);go_in;have hsz:s.size+1+(txt n).length<=9223372036854775807:=by have:=HL.out;omega
   have HL2:Hid ((ByteArray.mk (s.data.toList++ [47]++txt n).toArray).size<=maxLen):=zzH (by
    have h1:(ByteArray.mk (s.data.toList++ [47]++txt n).toArray).size=s.size+1+(txt n).length:=by
     show(s.data.toList++ [47]++txt n).toArray.size=_;rw [List.size_toArray,zzq16,zzq16];rfl
    rw [h1];unfold maxLen;omega)
   have hky:keyOf Tryz.prog 9 (.string (s++⟨#[47]⟩++⟨(txt n).toArray⟩))=some (.string (s.data.toList++ [47]++txt n)):=by
    have h:=keyOf_string_mk (P:=Tryz.prog) (k:=9) (s:=⟨(s.data.toList++ [47]++txt n).toArray⟩) Tryz.underlying9 (HL2.out)
    have e:(⟨(s.data.toList++ [47]++txt n).toArray⟩:ByteArray)=s++⟨#[47]⟩++⟨(txt n).toArray⟩:=by
     apply ByteArray.ext;simp
    rwa [e]at h
   have HK:=zzH hky;clear hky;go_wp2_with (go_at_call 124;refine(HC _).mono ?_;rintro e w0 ⟨rfl,rfl⟩);refine(zhn _ hsp).mono ?_;rintro e w1 ⟨M,rfl,⟨D,hown,hD⟩,hB1⟩;go_wp2_with (go_at_call 126;refine(zj0 n _ hn).mono ?_);rintro e w2 ⟨rfl,hB2⟩;have hown2:w2.ownsMap Tryz.prog 9 (plainElem Tryz.prog 3) M _ D:=hown.kept (row:=none) ⟨hB2.os,hB2.tape,hB2.output,hB2.size,fun k hk _=>hB2.block k hk⟩ (by simp);have hB12:Below w0.heap.size w0 w2:=zd hB1 hB2;have HD:=zzH (hD (s.data.toList++ [47]++txt n));clear hown hD HC;go_wp2_with (at_lookup;refine wpList_lookup_own_int _ rfl _ _ 186 rfl 9 3 .i64 ziL Tryz.underlying186 Tryz.underlying3 (zlt _) M 72 D rfl hown2 _ (.string (s.data.toList++ [47]++txt n)) rfl HK.out ?_);intro c hat hwc
   have E2:Hid (c=zbs s n):=zzH (by
    rw [E.out];have h1:=HD.out;simp only [List.append_assoc,List.singleton_append]at h1 hat ⊢;have h:=h1.symm.trans hat;injection h with h;injection h with _ h;exact h.symm)
   clear hat hwc;go_wp2;go_ret;exact⟨zcp E2.out,hB12⟩
def kI (op dk dn:Int) (src:List RArg) (to' n:Int):RIns:=⟨op,⟨dk,dn⟩,src,to',n,0,⟨#[]⟩,[],[]⟩
def kR (op dk dn:Int) (so:Option Addr) (sn:Nat) (to' n:Int):List Value:=[.int .i64 op,.int .i64 dk,.int .i64 dn,.slice so sn sn,.int .i64 to',.int .i64 n,.int .i64 0,.string ⟨#[]⟩,.slice none 0 0,.slice none 0 0]
def zb4 (n:Int):Bool:=decide (-1000<=n/\n<=1000)
theorem zbq {n:Int} (h:zb4 n=true):I64 n:=by have:=zza h;unfold I64;omega
theorem zem (w:World) (op dk dn to' n:Int) (h:(zb4 op&&(zb4 dk&&(zb4 dn&&(zb4 to'&&zb4 n))))=true):InsR w (kR op dk dn none 0 to' n) (kI op dk dn [] to' n):=by
 simp only [zzq6]at h;obtain⟨h1,h2,h3,h4,h5⟩:=h;exact⟨⟨none,0,none,0,none,0,rfl,.inl rfl,.inl rfl,.inl rfl⟩,zbq h1,zbq h2,zbq h3,zzZ _,zbq h4,zbq h5,zbq rfl,zzZ _,zzZ _,zzZ _⟩
theorem zfm {w:World} {O:Nat} {T:TypeId} {r:Int} (ho:w.heap[O]?=some (.cells #[.int .i64 1,.int .i64 r] T (0,0))) (hr:zb4 r=true) (op dk dn to' n:Int) (h:(zb4 op&&(zb4 dk&&(zb4 dn&&(zb4 to'&&zb4 n))))=true):InsR w (kR op dk dn (some ⟨O,0,none⟩) 1 to' n) (kI op dk dn [⟨1,r⟩] to' n):=by
 simp only [zzq6]at h;obtain⟨h1,h2,h3,h4,h5⟩:=h;refine⟨⟨some ⟨O,0,none⟩,1,none,0,none,0,rfl,.inr ⟨O,0,rfl,zb ho,fun j hj=>?_⟩,.inl rfl,.inl rfl⟩,zbq h1,zbq h2,zbq h3,by show(1:Nat)<=maxLen;unfold maxLen;omega,zbq h4,zbq h5,zbq rfl,zzZ _,zzZ _,zzZ _⟩;obtain rfl:j=0:=by have hj:j<1:=hj;omega
 refine⟨[.int .i64 1,.int .i64 r],rfl,fun k hk=>?_,rfl,zbq rfl,zbq hr⟩;rw [zzq0 _ _ _ _ _ _ ho,show 0+0*2+k=k by omega];simp
theorem zcy {w:World} {b:Nat} {T:TypeId} {v0 v1 v2 v3 v4 v5 v6 v7 v8 v9:Value} (h:w.heap[b]?=some (.cells #[v0,v1,v2,v3,v4,v5,v6,v7,v8,v9] T (0,0))):
  w.cell? ⟨b,0,none⟩=some v0/\w.cell? ⟨b,1,none⟩=some v1/\w.cell? ⟨b,2,none⟩=some v2/\w.cell? ⟨b,3,none⟩=some v3/\w.cell? ⟨b,4,none⟩=some v4/\w.cell? ⟨b,5,none⟩=some v5/\w.cell? ⟨b,6,none⟩=some v6/\w.cell? ⟨b,7,none⟩=some v7/\w.cell? ⟨b,8,none⟩=some v8/\w.cell? ⟨b,9,none⟩=some v9:=
 ⟨zzq0 w b 0 _ _ _ h,zzq0 w b 1 _ _ _ h,zzq0 w b 2 _ _ _ h,zzq0 w b 3 _ _ _ h,zzq0 w b 4 _ _ _ h,zzq0 w b 5 _ _ _ h,zzq0 w b 6 _ _ _ h,zzq0 w b 7 _ _ _ h,zzq0 w b 8 _ _ _ h,zzq0 w b 9 _ _ _ h⟩
def zg0:List RIns:=[kI 1 1 1 [⟨1,0⟩] 0 0,kI 26 0 0 [] 0 0]
def zmn (O:Nat):List Value:=kR 1 1 1 (some ⟨O,0,none⟩) 1 0 0++(kR 26 0 0 none 0 0 0++ [])
abbrev KO12 (O:Nat):Obj:=.cells #[.int .i64 1,.int .i64 1,.int .i64 1,.slice (some ⟨O,0,none⟩) 1 1,.int .i64 0,.int .i64 0,.int .i64 0,.string ⟨#[]⟩,.slice none 0 0,.slice none 0 0,.int .i64 26,.int .i64 0,.int .i64 0,.slice none 0 0,.int .i64 0,.int .i64 0,.int .i64 0,.string ⟨#[]⟩,.slice none 0 0,.slice none 0 0] 47
theorem zmv {w:World} {O A:Nat} {T T':TypeId} (ho:w.heap[O]?=some (.cells #[.int .i64 1,.int .i64 0] T' (0,0))) (h:w.heap[A]?=some (.cells (zmn O).toArray T (0,0))):SlAt w 10 (InsR w) (some ⟨A,0,none⟩) zg0:=zfn h ⟨_,_,rfl,rfl,zfm ho rfl _ _ _ _ _ rfl,⟨_,_,rfl,rfl,zem _ _ _ _ _ _ rfl,rfl⟩⟩
def zgq:List RIns:=[kI 26 0 0 [] 0 0,kI 1 1 1 [⟨1,2⟩] 0 0,kI 26 0 0 [] 0 0]
def zms (O:Nat):List Value:=kR 26 0 0 none 0 0 0++(kR 1 1 1 (some ⟨O,0,none⟩) 1 0 0++(kR 26 0 0 none 0 0 0++ []))
abbrev KO13 (O:Nat):Obj:=.cells #[.int .i64 26,.int .i64 0,.int .i64 0,.slice none 0 0,.int .i64 0,.int .i64 0,.int .i64 0,.string ⟨#[]⟩,.slice none 0 0,.slice none 0 0,.int .i64 1,.int .i64 1,.int .i64 1,.slice (some ⟨O,0,none⟩) 1 1,.int .i64 0,.int .i64 0,.int .i64 0,.string ⟨#[]⟩,.slice none 0 0,.slice none 0 0,.int .i64 26,.int .i64 0,.int .i64 0,.slice none 0 0,.int .i64 0,.int .i64 0,.int .i64 0,.string ⟨#[]⟩,.slice none 0 0,.slice none 0 0] 47
theorem zmw {w:World} {O A:Nat} {T T':TypeId} (ho:w.heap[O]?=some (.cells #[.int .i64 1,.int .i64 2] T' (0,0))) (h:w.heap[A]?=some (.cells (zms O).toArray T (0,0))):SlAt w 10 (InsR w) (some ⟨A,0,none⟩) zgq:=zfn h ⟨_,_,rfl,rfl,zem _ _ _ _ _ _ rfl,⟨_,_,rfl,rfl,zfm ho rfl _ _ _ _ _ rfl,⟨_,_,rfl,rfl,zem _ _ _ _ _ _ rfl,rfl⟩⟩⟩
def zgs:List RIns:=[kI 1 1 1 [⟨1,2⟩] 0 0,kI 26 0 0 [] 0 0]
def zml (O:Nat):List Value:=kR 1 1 1 (some ⟨O,0,none⟩) 1 0 0++(kR 26 0 0 none 0 0 0++ [])
abbrev KO14 (O:Nat):Obj:=.cells #[.int .i64 1,.int .i64 1,.int .i64 1,.slice (some ⟨O,0,none⟩) 1 1,.int .i64 0,.int .i64 0,.int .i64 0,.string ⟨#[]⟩,.slice none 0 0,.slice none 0 0,.int .i64 26,.int .i64 0,.int .i64 0,.slice none 0 0,.int .i64 0,.int .i64 0,.int .i64 0,.string ⟨#[]⟩,.slice none 0 0,.slice none 0 0] 47
theorem zmp {w:World} {O A:Nat} {T T':TypeId} (ho:w.heap[O]?=some (.cells #[.int .i64 1,.int .i64 2] T' (0,0))) (h:w.heap[A]?=some (.cells (zml O).toArray T (0,0))):SlAt w 10 (InsR w) (some ⟨A,0,none⟩) zgs:=zfn h ⟨_,_,rfl,rfl,zfm ho rfl _ _ _ _ _ rfl,⟨_,_,rfl,rfl,zem _ _ _ _ _ _ rfl,rfl⟩⟩
theorem zeE {t:VSt} (ht:zt t.x=t.x): ∀(l:List Nat) (M:Nat->Option VM) (j:Nat),(l.map (fun k=>(k,t))).foldl zC M j=if j∈l then zcJ (M j) t else M j
 |[],M,j=>rfl
 |k::l,M,j=>by
  rw [List.map_cons,List.foldl_cons,zeE ht l];unfold zC;by_cases e:j=k
  ·subst e
   rw [if_pos (List.mem_cons_self ..)];simp only [if_true];by_cases h:j∈l
   ·rw [if_pos h];exact zjs _ _ ht
   ·rw [if_neg h]
  ·simp only [e,if_false]
   by_cases h:j∈l
   ·rw [if_pos h,if_pos (List.mem_cons_of_mem _ h)]
   ·rw [if_neg h,if_neg (fun h'=>(List.mem_cons.1 h').elim e h)]
theorem zj9 {t:VSt} (ht:zt t.x=t.x) {l m:List Nat} (h: ∀j,j∈l↔j∈m) (M:Nat->Option VM):(l.map (fun k=>(k,t))).foldl zC M=(m.map (fun k=>(k,t))).foldl zC M:=by
 funext j;rw [zeE ht,zeE ht];by_cases c:j∈l
 ·rw [if_pos c,if_pos ((h j).1 c)]
 ·rw [if_neg c,if_neg (fun x=>c ((h j).2 x))]
structure JumpOk (n i:Nat) (x:RIns):Prop where
 case: ∀c∈x.cases,(i:Int)<c.to/\c.to<n
 sel:x.cases≠ []->x.op=12
 «to»:toB x.op=true->0<=x.to/\x.to<n
 fwd:toB x.op=true->x.op≠39->x.op≠40->(i:Int)<x.to
 non:toB x.op=false->x.op≠28->x.to=0
def zeK (i:Nat) (x:RIns):List Nat:=(if toB x.op=true/\(i:Int)<x.to then [x.to.toNat]else [])++x.cases.map (fun c=>c.to.toNat)
theorem zkC (u:RUnit) (i:Nat) (s:VSt) (x:RIns):zcG u i s x=(zeK i x).map (fun k=>(k,toV s x))++((if zbI x.op=true/\s.tries≠ []then [((zct s.tries).toNat,zc7 s)]else [])++(if zbi x.op=true then [(i+1,zc5 u i s x)]else [])):=by
 unfold zcG zeK;rw [List.map_append,List.append_assoc,List.map_map];congr 1;split<;>rfl
def goB (i:Nat) (x:RIns) (k:Int):Bool:=decide ((i:Int)+1<k)||(decide (k=(i:Int)+1)&&((decide (x.to=k)&& !decide (x.op=28))||x.cases.any (fun c=>decide (c.to=k))))
def zbm (i:Nat) (s t:VSt) (x:RIns):List Int->(Nat->Option VM)->Int × (Nat->Option VM)
 |[],M=>(0,M)
 |k::l,M=>if goB i x k=true then zbm i s t x l (zC M (k.toNat,t))else if k<=i/\zb9 (stM M k.toNat) s=true then(184,M)else zbm i s t x l M
def ze1 (n i:Nat) (x:RIns) (ks:List Int):Prop:= ∀k,k∈ks↔k∈zbg i x/\0<=k/\k<n
theorem zjC {i:Nat} {x:RIns} {k:Int} (h:goB i x k=true):(i:Int)<k:=by
 unfold goB at h;simp at h;omega
theorem zlz {n i:Nat} {x:RIns} {ks:List Int} (hk:ze1 n i x ks) (hj:JumpOk n i x) (j:Nat):j∈(ks.filter (goB i x)).map Int.toNat↔j∈zeK i x:=by
 constructor
 ·intro h
  obtain⟨k,hk1,rfl⟩:=List.mem_map.1 h;obtain⟨h1,h2⟩:=List.mem_filter.1 hk1;obtain⟨h3,h4,h5⟩:=(hk k).1 h1;have hgt:=zjC h2;unfold zeK;unfold zbg at h3;rcases List.mem_append.1 h3 with h3|h3
  ·have hf:k=(i:Int)+1:=by
    by_cases c:zbi x.op=true
    ·rw [if_pos c]at h3;simpa using h3
    ·rw [if_neg c]at h3;simp at h3
   unfold goB at h2;rw [Bool.or_eq_true,zzq6,Bool.or_eq_true,zzq6]at h2;rcases h2 with h2|⟨-,⟨h2,h6⟩|h2⟩
   ·have:=zza h2;omega
   ·have e1:=zza h2
    have e2:x.op≠28:=by simpa using h6
    by_cases c:toB x.op=true
    ·refine List.mem_append_left _ ?_
     rw [if_pos ⟨c,by omega⟩,e1];exact zzP.2 rfl
    ·have:=hj.non (by simpa using c) e2;omega
   ·obtain⟨c,hc1,hc2⟩:=List.any_eq_true.1 h2
    refine List.mem_append_right _ (List.mem_map.2 ⟨c,hc1,?_⟩);rw [of_decide_eq_true hc2]
  ·rcases List.mem_append.1 h3 with h3|h3
   ·by_cases c:toB x.op=true
    ·rw [if_pos c]at h3
     have e:=zzP.1 h3;refine List.mem_append_left _ ?_;rw [if_pos ⟨c,by omega⟩,e];exact zzP.2 rfl
    ·rw [if_neg c]at h3;simp at h3
   ·by_cases c:x.op=12
    ·rw [if_pos c]at h3
     obtain⟨c,hc1,hc2⟩:=List.mem_map.1 h3;exact List.mem_append_right _ (List.mem_map.2 ⟨c,hc1,by rw [hc2]⟩)
    ·rw [if_neg c]at h3;simp at h3
 ·intro h
  unfold zeK at h;rcases List.mem_append.1 h with h|h
  ·by_cases c:toB x.op=true/\(i:Int)<x.to
   ·rw [if_pos c]at h
    have e:=zzP.1 h;have h1:=hj.to c.1;refine List.mem_map.2 ⟨x.to,List.mem_filter.2 ⟨(hk _).2 ⟨?_,h1.1,h1.2⟩,?_⟩,e.symm⟩
    ·unfold zbg
     refine List.mem_append_right _ (List.mem_append_left _ ?_);rw [if_pos c.1];exact zzP.2 rfl
    ·have h28:x.op≠28:=fun e=>by rw [e]at c;exact absurd c.1 (by decide)
     unfold goB;by_cases d:(i:Int)+1<x.to
     ·rw [decide_eq_true d];rfl
     ·rw [decide_eq_false d,decide_eq_true (show x.to=(i:Int)+1 by omega),decide_eq_false h28];simp
   ·rw [if_neg c]at h;simp at h
  ·obtain⟨c,hc1,rfl⟩:=List.mem_map.1 h
   have h1:=hj.case c hc1;have h2:=hj.sel (fun e=>by rw [e]at hc1;cases hc1);refine List.mem_map.2 ⟨c.to,List.mem_filter.2 ⟨(hk _).2 ⟨?_,by omega,h1.2⟩,?_⟩,rfl⟩
   ·unfold zbg
    refine List.mem_append_right _ (List.mem_append_right _ ?_);rw [if_pos h2];exact List.mem_map.2 ⟨c,hc1,rfl⟩
   ·unfold goB
    by_cases d:(i:Int)+1<c.to
    ·rw [decide_eq_true d];rfl
    ·have e:x.cases.any (fun c'=>decide (c'.to=c.to))=true:=List.any_eq_true.2 ⟨c,hc1,zzT rfl⟩
     rw [decide_eq_false d,decide_eq_true (show c.to=(i:Int)+1 by omega),e];simp
theorem zft {n i:Nat} {x:RIns} {k:Int} (hj:JumpOk n i x) (h:k∈zbg i x) (hi:k<=i):toB x.op=true/\k=x.to:=by
 unfold zbg at h;rcases List.mem_append.1 h with h|h
 ·by_cases c:zbi x.op=true
  ·rw [if_pos c]at h;have:=zzP.1 h;omega
  ·rw [if_neg c]at h;simp at h
 ·rcases List.mem_append.1 h with h|h
  ·by_cases c:toB x.op=true
   ·rw [if_pos c]at h;exact⟨c,zzP.1 h⟩
   ·rw [if_neg c]at h;simp at h
  ·by_cases c:x.op=12
   ·rw [if_pos c]at h
    obtain⟨c,hc1,hc2⟩:=List.mem_map.1 h;have:=hj.case c hc1;omega
   ·rw [if_neg c]at h;simp at h
theorem zea {n i:Nat} {s t:VSt} {x:RIns} (hj:JumpOk n i x): ∀(ks:List Int) (M:Nat->Option VM),(∀k∈ks,k∈zbg i x) ->
  (zbm i s t x ks M).1=(if(∃k∈ks,k<=i)/\zb9 (stM M x.to.toNat) s=true then 184 else 0)/\((zbm i s t x ks M).1=0->(zbm i s t x ks M).2=(((ks.filter (goB i x)).map Int.toNat).map (fun k=>(k,t))).foldl zC M)
 |[],M,_=>⟨by rw [if_neg (by simp)];rfl,fun _=>rfl⟩
 |k::ks,M,hks=>by
  by_cases g:goB i x k=true
  ·have hgt:=zjC g
   obtain⟨h1,h2⟩:=zea hj ks (zC M (k.toNat,t)) (fun k' h=>hks k' (zzh _ h));have e:zbm i s t x (k::ks) M=zbm i s t x ks (zC M (k.toNat,t)):=by rw [zbm,if_pos g]
   rw [e];refine⟨?_,fun h0=>?_⟩
   ·rw [h1]
    by_cases c: ∃k'∈ks,k'<=(i:Int)
    ·obtain⟨k',hk',hle⟩:=c
     obtain⟨-,e2⟩:=zft hj (hks k' (zzh _ hk')) hle
     have e3:stM (zC M (k.toNat,t)) x.to.toNat=stM M x.to.toNat:=by
      unfold stM zC;rw [if_neg (show¬x.to.toNat=k.toNat by omega)]
     rw [e3];have c1: ∃k'∈ks,k'<=(i:Int):=⟨k',hk',hle⟩;have c2: ∃k'∈k::ks,k'<=(i:Int):=⟨k',zzh _ hk',hle⟩;by_cases d:zb9 (stM M x.to.toNat) s=true
     ·rw [if_pos ⟨c1,d⟩,if_pos ⟨c2,d⟩]
     ·rw [if_neg (fun h=>d h.2),if_neg (fun h=>d h.2)]
    ·rw [if_neg (fun h=>c h.1),if_neg]
     rintro⟨⟨k',hk',hle⟩,-⟩;rcases List.mem_cons.1 hk' with rfl|hk'
     ·omega
     ·exact c ⟨k',hk',hle⟩
   ·rw [h2 h0,List.filter_cons_of_pos g];rfl
  ·have g':goB i x k=false:=by simpa using g
   obtain⟨h1,h2⟩:=zea hj ks M (fun k' h=>hks k' (zzh _ h));by_cases c:k<=(i:Int)
   ·obtain⟨-,e2⟩:=zft hj (hks k (List.mem_cons_self ..)) c
    by_cases d:zb9 (stM M k.toNat) s=true
    ·have e:zbm i s t x (k::ks) M=(184,M):=by rw [zbm,if_neg g,if_pos ⟨c,d⟩]
     rw [e];refine⟨?_,fun h0=>absurd (show(184:Int)=0 from h0) (by decide)⟩;rw [if_pos ⟨⟨k,List.mem_cons_self ..,c⟩,by rw [<-e2];exact d⟩]
    ·have e:zbm i s t x (k::ks) M=zbm i s t x ks M:=by rw [zbm,if_neg g,if_neg (fun h=>d h.2)]
     rw [e];refine⟨?_,fun h0=>?_⟩
     ·rw [h1,if_neg (fun h=>d (by rw [e2];exact h.2)),if_neg (fun h=>d (by rw [e2];exact h.2))]
     ·rw [h2 h0,List.filter_cons_of_neg (by rw [g'];decide)]
   ·have e:zbm i s t x (k::ks) M=zbm i s t x ks M:=by rw [zbm,if_neg g,if_neg (fun h=>c h.1)]
    rw [e];refine⟨?_,fun h0=>?_⟩
    ·rw [h1]
     have e1:(∃k'∈k::ks,k'<=(i:Int))↔ ∃k'∈ks,k'<=(i:Int):=⟨fun⟨k',h,hle⟩=>(List.mem_cons.1 h).elim (fun e=>absurd hle (by rw [e];exact c)) fun h=>⟨k',h,hle⟩,fun⟨k',h,hle⟩=>⟨k',zzh _ h,hle⟩⟩;simp only [e1]
    ·rw [h2 h0,List.filter_cons_of_neg (by rw [g'];decide)]
theorem zle {n i:Nat} {s t:VSt} {x:RIns} {ks:List Int} (hk:ze1 n i x ks) (hj:JumpOk n i x) (ht:zt t.x=t.x) (hi:i<n) (M:Nat->Option VM):
  (zbm i s t x ks M).1=(if toB x.op=true/\x.to<=i/\zb9 (stM M x.to.toNat) s=true then 184 else 0)/\((zbm i s t x ks M).1=0->(zbm i s t x ks M).2=((zeK i x).map (fun k=>(k,t))).foldl zC M):=by
 obtain⟨h1,h2⟩:=zea (s:=s) (t:=t) hj ks M (fun k h=>((hk k).1 h).1);refine⟨?_,fun h0=>?_⟩
 ·rw [h1]
  have e:(∃k∈ks,k<=(i:Int))↔toB x.op=true/\x.to<=i:=by
   constructor
   ·rintro⟨k,hk1,hle⟩
    obtain⟨a,b⟩:=zft hj ((hk k).1 hk1).1 hle;exact⟨a,by omega⟩
   ·rintro⟨a,b⟩
    obtain⟨c,d⟩:=hj.to a;refine⟨x.to,(hk _).2 ⟨?_,c,d⟩,b⟩;unfold zbg;refine List.mem_append_right _ (List.mem_append_left _ ?_);rw [if_pos a];exact zzP.2 rfl
  simp only [e,and_assoc]
 ·rw [h2 h0];exact zj9 ht (zlz hk hj) M
end Go.Proofs.YtepjanajflkakaaGreatDoor
