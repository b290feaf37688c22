/- part 5 -/
import Derived.Laws.AppendOwn
import Derived.Laws.NewBlocks
import Derived.Laws.Tables
import Derived.Deep.AppendLies
import Derived.Deep.Cut
import Derived.Test.YtepjanajflkakaaGreatDoorKnownAll01
namespace Go.Proofs.YtepjanajflkakaaGreatDoor
open Go.RowKit
set_option linter.unusedVariables false
set_option linter.unusedSimpArgs false
set_option maxRecDepth 100000
set_option maxHeartbeats 40000000
section
variable {α:Type} {w w':World} {size:Nat} {R R':List Value->α->Prop} {b off:Nat}
def RowsAll (w:World) (size:Nat) (R:List Value->α->Prop) (b off:Nat) (l:List α):Prop:= ∀j (h:j<l.length),∃cs:List Value,cs.length=size/\(∀i,i<size->w.cell? ⟨b,off+j*size+i,none⟩=cs[i]?)/\R cs l[j]
theorem rows_values: ∀{l:List α} {off:Nat},RowsAll w size R b off l->(∀cs a,R cs a-> ∀v∈cs,v.oneCell'=true)-> ∃vs:List Value,vs.length=l.length*size/\(∀k,k<l.length*size->w.cell? ⟨b,off+k,none⟩=vs[k]?)/\ ∀v∈vs,v.oneCell'=true
 |[],off,h,_=>⟨[],by simp,fun k hk=>by simp at hk,fun v hv=>by cases hv⟩
 |a::l,off,h,hR=>by
  obtain⟨cs,hl,hc,hr⟩:=h 0 (by simp)
  have h':RowsAll w size R b (off+size) l:=fun j hj=>by
   obtain⟨cs',g1,g2,g3⟩:=h (j+1) (by simpa using hj)
   refine⟨cs',g1,fun i hi=>?_,by simpa using g3⟩
   rw [<-g2 i hi,show off+size+j*size+i=off+(j+1)*size+i by rw [Nat.add_mul,Nat.one_mul];omega]
  obtain⟨vs,e1,e2,e3⟩:=rows_values h' hR
  refine⟨cs++vs,by rw [List.length_append,hl,e1,List.length_cons,Nat.add_mul,Nat.one_mul];omega,fun k hk=>?_,fun v hv=>(List.mem_append.1 hv).elim (hR _ _ hr v) (e3 v)⟩
  by_cases c:k<size
  ·rw [List.getElem?_append_left (by omega),<-hc k c,Nat.zero_mul,Nat.add_zero]
  ·rw [List.getElem?_append_right (by omega),hl,<-e2 (k-size) (by rw [List.length_cons,Nat.add_mul,Nat.one_mul]at hk;omega),show off+size+(k-size)=off+k by omega]
theorem rows_copy {b' off':Nat} {l:List α} {vs:List Value} (h:RowsAll w size R b off l) (h1: ∀k,k<l.length*size->w.cell? ⟨b,off+k,none⟩=vs[k]?) (h2: ∀k,k<l.length*size->w'.cell? ⟨b',off'+k,none⟩=vs[k]?) (hR: ∀cs a,R cs a->R' cs a):RowsAll w' size R' b' off' l:=fun j hj=>by
 obtain⟨cs,g1,g2,g3⟩:=h j hj
 refine⟨cs,g1,fun i hi=>?_,hR _ _ g3⟩
 have hk:j*size+i<l.length*size:=by
  have:(j+1)*size<=l.length*size:=Nat.mul_le_mul_right _ hj
  rw [Nat.add_mul,Nat.one_mul]at this
  omega
 rw [<-g2 i hi,Nat.add_assoc,h2 _ hk,<-h1 _ hk,Nat.add_assoc]
theorem SlAt.rows {ao:Option Addr} {l:List α} (h:SlAt w size R ao l) (hl:l≠ []): ∃b off,ao=some ⟨b,off,none⟩/\b<w.heap.size/\RowsAll w size R b off l:=by
 rcases h with h|h
 ·exact absurd h hl
 ·exact h
theorem owns_cells {B g n cap:Nat} {e:TypeId} {xs:List Value} (h:w.ownsRow B e size (.slice (some ⟨g,0,none⟩) n cap) n xs):g<w.heap.size/\B<=g/\n<=cap/\ ∀k,k<n*size->w.cell? ⟨g,0+k,none⟩=xs[k]?:=by
 rcases h.2 with⟨h0,_⟩|⟨g',cap',cur,e1,hB,hg,h1,h2,h3,h4⟩
 ·cases h0
 ·injection e1 with e1 e2 e3
  injection e1 with e1
  injection e1 with e1
  subst e1;subst e3
  refine⟨lt_of_row hg,hB,h1,fun k hk=>?_⟩
  rw [cell_of_row _ _ _ _ _ _ hg,<-h4,List.getElem?_take_of_lt (by omega),Array.getElem?_toList,Nat.zero_add]
end
theorem insR_one {w:World}: ∀cs a,InsR w cs a-> ∀v∈cs,v.oneCell'=true:=fun cs a ⟨⟨so,sc,co,cc,go,gc,h,_⟩,_⟩ v hv=>by subst h;simp at hv;rcases hv with rfl|rfl|rfl|rfl|rfl|rfl|rfl|rfl|rfl|rfl<;>rfl
def strM:ByteArray:=⟨#[109]⟩
def strF:ByteArray:=⟨#[102]⟩
def exU (l:List RIns):RUnit:=⟨strM,1,[],[⟨strF,1,true,0⟩],[],l⟩
theorem lawx_any (n:Int) (w:World):Calls Tryz.prog 24 #[.int .i64 n] w fun e w'=>e= .returned (.agg #[.int .i64 1,.int .i64 n])/\Below w.heap.size w w':=by
 go_in
 go_wp2_with fail
 refine bodyPost_ret (results_cell_row rfl _ _ w.heap.size _ _ _ _ rfl (heap_alloc_new _ _) Tryz.underlying42 rfl (by kernel_rfl)) rfl ?_
 exact⟨rfl,(Below.refl _ _).alloc (Nat.le_refl _) _⟩
theorem lawy_any (n:Int) (w:World):Calls Tryz.prog 26 #[.int .i64 n] w fun e w'=>e= .returned (.agg #[.int .i64 2,.int .i64 n])/\Below w.heap.size w w':=by
 go_in
 go_wp2_with fail
 refine bodyPost_ret (results_cell_row rfl _ _ w.heap.size _ _ _ _ rfl (heap_alloc_new _ _) Tryz.underlying42 rfl (by kernel_rfl)) rfl ?_
 exact⟨rfl,(Below.refl _ _).alloc (Nat.le_refl _) _⟩
def RwsIn {α:Type} (size:Nat) (R:List Value->α->Prop):List Value->List α->Prop
 |xs,[]=>xs= []
 |xs,t::ts=> ∃cs ys,xs=cs++ys/\cs.length=size/\R cs t/\RwsIn size R ys ts
theorem RwsIn.get {α:Type} {size:Nat} {R:List Value->α->Prop}: ∀{ts:List α} {xs:List Value},RwsIn size R xs ts-> ∀j (h:j<ts.length),∃cs:List Value,cs.length=size/\(∀i,i<size->xs[j*size+i]?=cs[i]?)/\R cs ts[j]
 |[],_,_,j,h=>absurd h (Nat.not_lt_zero _)
 |t::ts,_,⟨cs,ys,a,b,c,d⟩,0,_=>⟨cs,b,fun i hi=>by rw [a,Nat.zero_mul,Nat.zero_add,List.getElem?_append_left (by omega)],c⟩
 |t::ts,_,⟨cs,ys,a,b,c,d⟩,j+1,h=>by
  obtain⟨cs',h1,h2,h3⟩:=RwsIn.get d j (by simpa using h)
  refine⟨cs',h1,fun i hi=>?_,h3⟩
  rw [a,List.getElem?_append_right (by rw [b,Nat.succ_mul];omega),<-h2 i hi]
  congr 1
  rw [b,Nat.succ_mul];omega
theorem sl_rows {α:Type} {w:World} {size b:Nat} {T:TypeId} {R:List Value->α->Prop} {xs:List Value} {l:List α} (h:w.heap[b]?=some (.cells xs.toArray T (0,0))) (hr:RwsIn size R xs l):SlAt w size R (some ⟨b,0,none⟩) l:=
 .inr ⟨b,0,rfl,lt_of_row h,fun j hj=>by
  obtain⟨cs,h1,h2,h3⟩:=hr.get j hj
  exact⟨cs,h1,fun i hi=>by rw [cell_of_row _ _ _ _ _ _ h,Nat.zero_add,<-h2 i hi,List.getElem?_toArray],h3⟩⟩
theorem infoIns2:(Tryz.prog.info? 47).map (fun i=>(i.zero,i.size,i.bytes))=some (some (.agg #[.int .i64 0,.int .i64 0,.int .i64 0,.slice none 0 0,.int .i64 0,.int .i64 0,.int .i64 0,.string ⟨#[]⟩,.slice none 0 0,.slice none 0 0]),10,136):=by kernel_rfl
theorem three_allocs (w:World) (o0 o1 o2:Obj):(((w.alloc o0).alloc o1).alloc o2).heap[w.heap.size]?=some o0/\(((w.alloc o0).alloc o1).alloc o2).heap[w.heap.size+1]?=some o1 /\
  (((w.alloc o0).alloc o1).alloc o2).heap[w.heap.size+1+1]?=some o2/\Below w.heap.size w (((w.alloc o0).alloc o1).alloc o2):=by
 have s: ∀(x:World) (o:Obj),(x.alloc o).heap.size=x.heap.size+1:=fun x o=>by simp
 have n: ∀(x:World) (o:Obj),(x.alloc o).heap[x.heap.size]?=some o:=fun x o=>heap_alloc_new x o
 have k: ∀(x:World) (o:Obj) (j:Nat) (p:Obj),x.heap[j]?=some p->(x.alloc o).heap[j]?=some p:=fun x o j p h=>(Below.heap_alloc x o j (lt_of_row h)).trans h
 have e1:=n (w.alloc o0) o1;rw [s]at e1
 have e2:=n ((w.alloc o0).alloc o1) o2;rw [s,s]at e2
 exact⟨k _ _ _ _ (k _ _ _ _ (n w o0)),k _ _ _ _ e1,e2,(((Below.refl _ _).alloc (Nat.le_refl _) _).alloc (by rw [s];omega) _).alloc (by rw [s,s];omega) _⟩
theorem own_empty {w:World} {g:Nat} (h:w.heap[g]?=some (.cells #[] 47 (0,0))):w.ownsRow 0 47 10 (.slice (some ⟨g,0,none⟩) 0 0) 0 []:=
 ⟨by simp,.inr ⟨g,0,#[],rfl,Nat.zero_le _,h,Nat.le_refl _,Nat.zero_le _,by simp,by simp⟩⟩
theorem six_cells {w:World} {b:Nat} {T:TypeId} {v0 v1 v2 v3 v4 v5:Value} (h:w.heap[b]?=some (.cells #[v0,v1,v2,v3,v4,v5] T (0,0))):
  w.cell? ⟨b,0,none⟩=some v0/\w.cell? ⟨b,1,none⟩=some v1/\w.cell? ⟨b,2,none⟩=some v2/\w.cell? ⟨b,3,none⟩=some v3/\w.cell? ⟨b,4,none⟩=some v4/\w.cell? ⟨b,5,none⟩=some v5:=
 ⟨cell_of_row w b 0 _ _ _ h,cell_of_row w b 1 _ _ _ h,cell_of_row w b 2 _ _ _ h,cell_of_row w b 3 _ _ _ h,cell_of_row w b 4 _ _ _ h,cell_of_row w b 5 _ _ _ h⟩
theorem six_set {w:World} {b:Nat} {T:TypeId} {v0 v1 v2 v3 v4 v5:Value} (h:w.heap[b]?=some (.cells #[v0,v1,v2,v3,v4,v5] T (0,0))) (u0 u1 u2 u3 u4 u5:Value):
  ((((((w.setCell ⟨b,0,none⟩ u0).setCell ⟨b,1,none⟩ u1).setCell ⟨b,2,none⟩ u2).setCell ⟨b,3,none⟩ u3).setCell ⟨b,4,none⟩ u4).setCell ⟨b,5,none⟩ u5).heap[b]?=some (.cells #[u0,u1,u2,u3,u4,u5] T (0,0)):=by
 have a0:(World.setCell w ⟨b,0,none⟩ u0).heap[b]?=_:=heap_setCell_same _ b 0 _ _ _ h
 have a1:(World.setCell _ ⟨b,1,none⟩ u1).heap[b]?=_:=heap_setCell_same _ b 1 _ _ _ a0
 have a2:(World.setCell _ ⟨b,2,none⟩ u2).heap[b]?=_:=heap_setCell_same _ b 2 _ _ _ a1
 have a3:(World.setCell _ ⟨b,3,none⟩ u3).heap[b]?=_:=heap_setCell_same _ b 3 _ _ _ a2
 have a4:(World.setCell _ ⟨b,4,none⟩ u4).heap[b]?=_:=heap_setCell_same _ b 4 _ _ _ a3
 exact heap_setCell_same _ b 5 _ _ _ a4
theorem six_low {B:Nat} {w0 w:World} {b:Nat} (hb:Below B w0 w) (h:B<=b) (u0 u1 u2 u3 u4 u5:Value):
  Below B w0 ((((((w.setCell ⟨b,0,none⟩ u0).setCell ⟨b,1,none⟩ u1).setCell ⟨b,2,none⟩ u2).setCell ⟨b,3,none⟩ u3).setCell ⟨b,4,none⟩ u4).setCell ⟨b,5,none⟩ u5):=
 (((((hb.setCell (p:=⟨b,0,none⟩) h u0).setCell (p:=⟨b,1,none⟩) h u1).setCell (p:=⟨b,2,none⟩) h u2).setCell (p:=⟨b,3,none⟩) h u3).setCell (p:=⟨b,4,none⟩) h u4).setCell (p:=⟨b,5,none⟩) h u5
theorem six_other {w:World} {b q:Nat} (h:q≠b) (u0 u1 u2 u3 u4 u5:Value):
  ((((((w.setCell ⟨b,0,none⟩ u0).setCell ⟨b,1,none⟩ u1).setCell ⟨b,2,none⟩ u2).setCell ⟨b,3,none⟩ u3).setCell ⟨b,4,none⟩ u4).setCell ⟨b,5,none⟩ u5).heap[q]?=w.heap[q]?:=by
 have k: ∀(x:World) (i:Nat) (u:Value),(x.setCell ⟨b,i,none⟩ u).heap[q]?=x.heap[q]?:=fun x i u=>heap_setCell_other _ _ _ _ h
 rw [k,k,k,k,k,k]
def UnitQ (l:List RIns) (n:Nat) (e:Ending) (w':World):Prop:=
 ∃fo fc co cc,e= .returned (.agg #[.string strM,.int .i64 1,.slice none 0 0,.slice fo 1 fc,.slice none 0 0,.slice co n cc])/\UP w' (exU l) none fo none co
def UnitN (w:World) (l:List RIns) (n:Nat) (R:List Value->RIns->Prop) (e:Ending) (w':World):Prop:=
 ∃f fc g cc,e= .returned (.agg #[.string strM,.int .i64 1,.slice none 0 0,.slice (some ⟨f,0,none⟩) 1 fc,.slice none 0 0,.slice (some ⟨g,0,none⟩) n cc])/\w.heap.size<=f/\w.heap.size<=g/\SlAt w' 4 FuncR (some ⟨f,0,none⟩) (exU l).funcs/\SlAt w' 10 R (some ⟨g,0,none⟩) l
theorem SlAt.keepB {α:Type} {w w':World} {size g:Nat} {R:List Value->α->Prop} {l:List α} (h:SlAt w size R (some ⟨g,0,none⟩) l) (e:w'.heap[g]?=w.heap[g]?) (hs:w.heap.size<=w'.heap.size):SlAt w' size R (some ⟨g,0,none⟩) l:=by
 rcases h with h|⟨b,off,e1,h1,h2⟩
 ·exact .inl h
 ·obtain⟨rfl,rfl,-⟩:g=b/\0=off/\True:=by
   have:=Option.some.inj e1
   injection this with a1 a2
   exact⟨a1,a2,trivial⟩
  refine .inr ⟨g,0,rfl,Nat.lt_of_lt_of_le h1 hs,fun j hj=>?_⟩
  obtain⟨cs,c1,c2,c3⟩:=h2 j hj
  exact⟨cs,c1,fun i hi=>(World.cell?_of_block (a:=⟨g,0+j*size+i,none⟩) e).trans (c2 i hi),c3⟩
theorem exU_up {w:World} {l:List RIns} {fo co:Option Addr} (h1:SlAt w 4 FuncR fo (exU l).funcs) (h2:SlAt w 10 (InsR w) co l) (h3:l.length<=100000):UP w (exU l) none fo none co:=
 ⟨.inl rfl,h1,.inl rfl,h2,by show(1:Nat)<=_;decide,by show I64 1;unfold I64;decide,by show(0:Nat)<=_;decide,by show(1:Nat)<=_;decide,by show(0:Nat)<=_;decide,by show l.length<=_;omega⟩
theorem unit_new (R:List Value->RIns->Prop) (hone: ∀cs a,R cs a-> ∀v∈cs,v.oneCell'=true) (l:List RIns) (n:Nat) (hn:n=l.length) (co:Option Addr) (cc:Nat) (w:World) (h:SlAt w 10 R co l) (h0:l≠ []) (h1:l.length<=100000):
  Calls Tryz.prog 25 #[.slice co n cc] w fun e w'=>UnitN w l n R e w'/\Below w.heap.size w w':=by
 obtain⟨b,off,rfl,hb,hr⟩:=h.rows h0
 obtain⟨vs,e1,e2,e3⟩:=rows_values hr hone
 obtain⟨i0,hi,hz0,hz1,hz2⟩:=info_parts infoIns2
 obtain⟨hZ,hF,hE,hB3⟩:=three_allocs w (.cells #[.string ⟨#[]⟩,.int .i64 0,.slice none 0 0,.slice none 0 0,.slice none 0 0,.slice none 0 0] 27) (.cells #[.string ⟨#[102]⟩,.int .i64 1,.bool true,.int .i64 0] 106) (.cells #[] 47)
 have HOWN:=Lib.hid (own_empty hE)
 have HNEWS:Hid (∀j u,vs[j]?=some u->(((w.alloc (.cells #[.string ⟨#[]⟩,.int .i64 0,.slice none 0 0,.slice none 0 0,.slice none 0 0,.slice none 0 0] 27)).alloc (.cells #[.string ⟨#[102]⟩,.int .i64 1,.bool true,.int .i64 0] 106)).alloc (.cells #[] 47)).cell? ((⟨b,off,none⟩:Addr).add j)=some u):=Lib.hid fun j u hj=>by
  have hjl:j<l.length*10:=by rw [<-e1];exact(List.getElem?_eq_some_iff.1 hj).1
  rw [<-hj,<-e2 j hjl,show(⟨b,off,none⟩:Addr).add j=⟨b,off+j,none⟩by simp [Addr.add]]
  exact hB3.cell (p:=⟨b,off+j,none⟩) hb
 have hpos:0<n:=by rw [hn];exact List.length_pos_iff.2 h0
 have h63:0+n<=maxLen:=by unfold maxLen;omega
 have hby:(0+n)*136<=140737488355328:=by omega
 have H63:=Lib.hid h63;have HBY:=Lib.hid hby;have HPOS:=Lib.hid hpos;have HB3:=Lib.hid hB3;have HZ:=Lib.hid hZ;have HF:=Lib.hid hF
 have HR:Hid (∀w' g,(∀k,k<n*10->w'.cell? ⟨g,0+k,none⟩=vs[k]?)->Below w.heap.size w w'->g<w'.heap.size->SlAt w' 10 R (some ⟨g,0,none⟩) l):=Lib.hid fun w' g hk hbw hg=>.inr ⟨g,0,rfl,hg,rows_copy hr e2 (by rw [<-hn];exact hk) (fun cs a h=>h)⟩
 rw [<-hn]at e1
 have HL:=Lib.hid e1;have H1:=Lib.hid e3;have HN:=Lib.hid hn
 clear hr e1 e2 e3 h h0 h1 hone hb hE hF hZ hB3 h63 hby hpos hn
 go_in
 go_wp2_with (at_builtin;refine wpList_append_lies _ rfl (.tmp 5) (.tmp 6) 25 rfl 0 47 i0 _ 10 136 Tryz.underlying25 hi hz0 hz1 hz2 rfl (by decide) _ 0 _ rfl HOWN.out ⟨b,off,none⟩ n cc vs rfl HL.out HNEWS.out H1.out HPOS.out H63.out HBY.out (Nat.zero_le _) _ rfl ?_;intro g cap w3 ho3 hg3 hat hlt3;rw [Nat.zero_add]at ho3 ⊢;rw [List.nil_append]at ho3;have hx3:=(hg3.block w.heap.size (lt_of_row HZ.out) (fun e=>by have:w.heap.size=w.heap.size+1+1:=Option.some.inj e;omega)).trans HZ.out;obtain⟨p0,p1,p2,p3,p4,p5⟩:=six_cells hx3;have z0:=frozen_of_row w3 w.heap.size 0 _ _ hx3;have z1:=frozen_of_row w3 w.heap.size 1 _ _ hx3;have z2:=frozen_of_row w3 w.heap.size 2 _ _ hx3;have z3:=frozen_of_row w3 w.heap.size 3 _ _ hx3;have z4:=frozen_of_row w3 w.heap.size 4 _ _ hx3;have z5:=frozen_of_row w3 w.heap.size 5 _ _ hx3;have HX3:=Lib.hid hx3)
 have hx3:=HX3.out
 refine bodyPost_ret (results_cell_row rfl _ _ w.heap.size _ _ _ _ rfl (six_set hx3 _ _ _ _ _ _) Tryz.underlying27 rfl (by kernel_rfl)) rfl ?_
 have hs3:=HB3.out.size
 have hgne:g≠w.heap.size:=hat.elim (fun e=>by have:w.heap.size+1+1=g:=Option.some.inj e;omega) (fun e=>by rw [e];simp;omega)
 have hbw:=six_low (b:=w.heap.size) (HB3.out.grown hg3 hs3 (fun k e=>by have:w.heap.size+1+1=k:=Option.some.inj e;omega)) (Nat.le_refl _) (.string ⟨#[109]⟩) (.int .i64 1) (.slice none 0 0) (.slice (some ⟨w.heap.size+1,0,none⟩) 1 1) (.slice none 0 0) (.slice (some ⟨g,0,none⟩) n cap)
 have hf:=(six_other (b:=w.heap.size) (q:=w.heap.size+1) (by omega) (.string ⟨#[109]⟩) (.int .i64 1) (.slice none 0 0) (.slice (some ⟨w.heap.size+1,0,none⟩) 1 1) (.slice none 0 0) (.slice (some ⟨g,0,none⟩) n cap)).trans ((hg3.block (w.heap.size+1) (lt_of_row HF.out) (fun e=>by have:w.heap.size+1=w.heap.size+1+1:=Option.some.inj e;omega)).trans HF.out)
 have hc:=(owns_cells ho3).2.2.2
 have hgw:w.heap.size<=g:=hat.elim (fun e=>by have:w.heap.size+1+1=g:=Option.some.inj e;omega) (fun e=>by rw [e];simp;omega)
 refine⟨⟨w.heap.size+1,1,g,cap,rfl,Nat.le_succ _,hgw,.inr ⟨w.heap.size+1,0,rfl,lt_of_row hf,fun j hj=>?_⟩,HR.out _ g (fun k hk=>?_) hbw (by simpa using hlt3)⟩,hbw⟩
 ·obtain rfl:j=0:=by have hj:j<1:=hj;omega
  refine⟨[.string ⟨#[102]⟩,.int .i64 1,.bool true,.int .i64 0],rfl,fun k hk=>?_,rfl,by show(1:Nat)<=_;unfold maxLen;decide,by show I64 1;unfold I64;decide,by show I64 0;unfold I64;decide⟩
  rw [cell_of_row _ _ _ _ _ _ hf,show 0+0*4+k=k by omega]
  simp
 ·rw [<-hc k hk]
  exact World.cell?_of_block (six_other hgne _ _ _ _ _ _)
theorem unit_any (l:List RIns) (n:Nat) (hn:n=l.length) (co:Option Addr) (cc:Nat) (w:World) (h:SlAt w 10 (InsR w) co l) (h0:l≠ []) (h1:l.length<=100000):
  Calls Tryz.prog 25 #[.slice co n cc] w fun e w'=>UnitQ l n e w'/\Below w.heap.size w w':=
 (unit_new (InsR w) insR_one l n hn co cc w h h0 h1).mono fun e w' ⟨⟨f,fc,g,cc',a1,_,_,a4,a5⟩,hb⟩=>
  ⟨⟨some ⟨f,0,none⟩,fc,some ⟨g,0,none⟩,cc',a1,exU_up a4 (by rcases a5 with a5|⟨b,off,b1,b2,b3⟩;exact .inl a5;exact .inr ⟨b,off,b1,b2,fun j hj=>by obtain⟨cs,c1,c2,c3⟩:=b3 j hj;exact⟨cs,c1,c2,c3.below hb⟩⟩) h1⟩,hb⟩
def kI (op dk dn:Int) (src:List RArg) (to' n:Int):RIns:=⟨op,⟨dk,dn⟩,src,to',n,0,⟨#[]⟩,[],[]⟩
def kR (op dk dn:Int) (so:Option Addr) (sn:Nat) (to' n:Int):List Value:=[.int .i64 op,.int .i64 dk,.int .i64 dn,.slice so sn sn,.int .i64 to',.int .i64 n,.int .i64 0,.string ⟨#[]⟩,.slice none 0 0,.slice none 0 0]
def smallI (n:Int):Bool:=decide (-1000<=n/\n<=1000)
theorem smallI_64 {n:Int} (h:smallI n=true):I64 n:=by have:=of_decide_eq_true h;unfold I64;omega
theorem kR_none (w:World) (op dk dn to' n:Int) (h:(smallI op&&(smallI dk&&(smallI dn&&(smallI to'&&smallI n))))=true):InsR w (kR op dk dn none 0 to' n) (kI op dk dn [] to' n):=by
 simp only [Bool.and_eq_true]at h
 obtain⟨h1,h2,h3,h4,h5⟩:=h
 exact⟨⟨none,0,none,0,none,0,rfl,.inl rfl,.inl rfl,.inl rfl⟩,smallI_64 h1,smallI_64 h2,smallI_64 h3,Nat.zero_le _,smallI_64 h4,smallI_64 h5,smallI_64 rfl,Nat.zero_le _,Nat.zero_le _,Nat.zero_le _⟩
theorem kR_some {w:World} {O:Nat} {T:TypeId} {r:Int} (ho:w.heap[O]?=some (.cells #[.int .i64 1,.int .i64 r] T (0,0))) (hr:smallI r=true) (op dk dn to' n:Int) (h:(smallI op&&(smallI dk&&(smallI dn&&(smallI to'&&smallI n))))=true):InsR w (kR op dk dn (some ⟨O,0,none⟩) 1 to' n) (kI op dk dn [⟨1,r⟩] to' n):=by
 simp only [Bool.and_eq_true]at h
 obtain⟨h1,h2,h3,h4,h5⟩:=h
 refine⟨⟨some ⟨O,0,none⟩,1,none,0,none,0,rfl,.inr ⟨O,0,rfl,lt_of_row ho,fun j hj=>?_⟩,.inl rfl,.inl rfl⟩,smallI_64 h1,smallI_64 h2,smallI_64 h3,by show(1:Nat)<=maxLen;unfold maxLen;omega,smallI_64 h4,smallI_64 h5,smallI_64 rfl,Nat.zero_le _,Nat.zero_le _,Nat.zero_le _⟩
 obtain rfl:j=0:=by have hj:j<1:=hj;omega
 refine⟨[.int .i64 1,.int .i64 r],rfl,fun k hk=>?_,rfl,smallI_64 rfl,smallI_64 hr⟩
 rw [cell_of_row _ _ _ _ _ _ ho,show 0+0*2+k=k by omega]
 simp
theorem ten_cells {w:World} {b:Nat} {T:TypeId} {v0 v1 v2 v3 v4 v5 v6 v7 v8 v9:Value} (h:w.heap[b]?=some (.cells #[v0,v1,v2,v3,v4,v5,v6,v7,v8,v9] T (0,0))):
  w.cell? ⟨b,0,none⟩=some v0/\w.cell? ⟨b,1,none⟩=some v1/\w.cell? ⟨b,2,none⟩=some v2/\w.cell? ⟨b,3,none⟩=some v3/\w.cell? ⟨b,4,none⟩=some v4/\w.cell? ⟨b,5,none⟩=some v5/\w.cell? ⟨b,6,none⟩=some v6/\w.cell? ⟨b,7,none⟩=some v7/\w.cell? ⟨b,8,none⟩=some v8/\w.cell? ⟨b,9,none⟩=some v9:=
 ⟨cell_of_row w b 0 _ _ _ h,cell_of_row w b 1 _ _ _ h,cell_of_row w b 2 _ _ _ h,cell_of_row w b 3 _ _ _ h,cell_of_row w b 4 _ _ _ h,cell_of_row w b 5 _ _ _ h,cell_of_row w b 6 _ _ _ h,cell_of_row w b 7 _ _ _ h,cell_of_row w b 8 _ _ _ h,cell_of_row w b 9 _ _ _ h⟩
def kl0:List RIns:=[kI 6 1 0 [⟨1,0⟩] 0 0,kI 26 0 0 [] 0 0]
def kc0 (O:Nat):List Value:=kR 6 1 0 (some ⟨O,0,none⟩) 1 0 0++(kR 26 0 0 none 0 0 0++ [])
theorem ks0 {w:World} {O A:Nat} {T T':TypeId} (ho:w.heap[O]?=some (.cells #[.int .i64 1,.int .i64 0] T' (0,0))) (h:w.heap[A]?=some (.cells (kc0 O).toArray T (0,0))):SlAt w 10 (InsR w) (some ⟨A,0,none⟩) kl0:=sl_rows h ⟨_,_,rfl,rfl,kR_some ho rfl _ _ _ _ _ rfl,⟨_,_,rfl,rfl,kR_none _ _ _ _ _ _ rfl,rfl⟩⟩
def kl1:List RIns:=[kI 10 0 0 [⟨1,0⟩] 3 0,kI 6 1 0 [⟨1,0⟩] 0 0,kI 26 0 0 [] 0 0,kI 26 0 0 [] 0 0]
def kc1 (O:Nat):List Value:=kR 10 0 0 (some ⟨O,0,none⟩) 1 3 0++(kR 6 1 0 (some ⟨O,0,none⟩) 1 0 0++(kR 26 0 0 none 0 0 0++(kR 26 0 0 none 0 0 0++ [])))
theorem ks1 {w:World} {O A:Nat} {T T':TypeId} (ho:w.heap[O]?=some (.cells #[.int .i64 1,.int .i64 0] T' (0,0))) (h:w.heap[A]?=some (.cells (kc1 O).toArray T (0,0))):SlAt w 10 (InsR w) (some ⟨A,0,none⟩) kl1:=sl_rows h ⟨_,_,rfl,rfl,kR_some ho rfl _ _ _ _ _ rfl,⟨_,_,rfl,rfl,kR_some ho rfl _ _ _ _ _ rfl,⟨_,_,rfl,rfl,kR_none _ _ _ _ _ _ rfl,⟨_,_,rfl,rfl,kR_none _ _ _ _ _ _ rfl,rfl⟩⟩⟩⟩
def kl2:List RIns:=[kI 1 2 0 [⟨1,0⟩] 0 0,kI 26 0 0 [] 0 0]
def kc2 (O:Nat):List Value:=kR 1 2 0 (some ⟨O,0,none⟩) 1 0 0++(kR 26 0 0 none 0 0 0++ [])
theorem ks2 {w:World} {O A:Nat} {T T':TypeId} (ho:w.heap[O]?=some (.cells #[.int .i64 1,.int .i64 0] T' (0,0))) (h:w.heap[A]?=some (.cells (kc2 O).toArray T (0,0))):SlAt w 10 (InsR w) (some ⟨A,0,none⟩) kl2:=sl_rows h ⟨_,_,rfl,rfl,kR_some ho rfl _ _ _ _ _ rfl,⟨_,_,rfl,rfl,kR_none _ _ _ _ _ _ rfl,rfl⟩⟩
def kl3:List RIns:=[kI 24 0 0 [] 0 1,kI 26 0 0 [] 0 0]
def kc3:List Value:=kR 24 0 0 none 0 0 1++(kR 26 0 0 none 0 0 0++ [])
theorem ks3 {w:World} {A:Nat} {T:TypeId} (h:w.heap[A]?=some (.cells kc3.toArray T (0,0))):SlAt w 10 (InsR w) (some ⟨A,0,none⟩) kl3:=sl_rows h ⟨_,_,rfl,rfl,kR_none _ _ _ _ _ _ rfl,⟨_,_,rfl,rfl,kR_none _ _ _ _ _ _ rfl,rfl⟩⟩
def kl4:List RIns:=[kI 24 0 0 [] 0 1,kI 25 0 0 [] 0 0]
def kc4:List Value:=kR 24 0 0 none 0 0 1++(kR 25 0 0 none 0 0 0++ [])
theorem ks4 {w:World} {A:Nat} {T:TypeId} (h:w.heap[A]?=some (.cells kc4.toArray T (0,0))):SlAt w 10 (InsR w) (some ⟨A,0,none⟩) kl4:=sl_rows h ⟨_,_,rfl,rfl,kR_none _ _ _ _ _ _ rfl,⟨_,_,rfl,rfl,kR_none _ _ _ _ _ _ rfl,rfl⟩⟩
def kl5:List RIns:=[kI 28 0 0 [] 2 0,kI 26 0 0 [] 0 0,kI 26 0 0 [] 0 0]
def kc5:List Value:=kR 28 0 0 none 0 2 0++(kR 26 0 0 none 0 0 0++(kR 26 0 0 none 0 0 0++ []))
theorem ks5 {w:World} {A:Nat} {T:TypeId} (h:w.heap[A]?=some (.cells kc5.toArray T (0,0))):SlAt w 10 (InsR w) (some ⟨A,0,none⟩) kl5:=sl_rows h ⟨_,_,rfl,rfl,kR_none _ _ _ _ _ _ rfl,⟨_,_,rfl,rfl,kR_none _ _ _ _ _ _ rfl,⟨_,_,rfl,rfl,kR_none _ _ _ _ _ _ rfl,rfl⟩⟩⟩
def kl6:List RIns:=[kI 34 0 0 [] 1 0,kI 26 0 0 [] 0 0]
def kc6:List Value:=kR 34 0 0 none 0 1 0++(kR 26 0 0 none 0 0 0++ [])
theorem ks6 {w:World} {A:Nat} {T:TypeId} (h:w.heap[A]?=some (.cells kc6.toArray T (0,0))):SlAt w 10 (InsR w) (some ⟨A,0,none⟩) kl6:=sl_rows h ⟨_,_,rfl,rfl,kR_none _ _ _ _ _ _ rfl,⟨_,_,rfl,rfl,kR_none _ _ _ _ _ _ rfl,rfl⟩⟩
def kl7:List RIns:=[kI 36 0 0 [] 0 0,kI 37 0 0 [] 3 0,kI 39 0 0 [] 1 0,kI 40 0 0 [] 1 0,kI 2 1 0 [] 0 0,kI 26 0 0 [] 0 0]
def kc7:List Value:=kR 36 0 0 none 0 0 0++(kR 37 0 0 none 0 3 0++(kR 39 0 0 none 0 1 0++(kR 40 0 0 none 0 1 0++(kR 2 1 0 none 0 0 0++(kR 26 0 0 none 0 0 0++ [])))))
theorem ks7 {w:World} {A:Nat} {T:TypeId} (h:w.heap[A]?=some (.cells kc7.toArray T (0,0))):SlAt w 10 (InsR w) (some ⟨A,0,none⟩) kl7:=sl_rows h ⟨_,_,rfl,rfl,kR_none _ _ _ _ _ _ rfl,⟨_,_,rfl,rfl,kR_none _ _ _ _ _ _ rfl,⟨_,_,rfl,rfl,kR_none _ _ _ _ _ _ rfl,⟨_,_,rfl,rfl,kR_none _ _ _ _ _ _ rfl,⟨_,_,rfl,rfl,kR_none _ _ _ _ _ _ rfl,⟨_,_,rfl,rfl,kR_none _ _ _ _ _ _ rfl,rfl⟩⟩⟩⟩⟩⟩
def kl8:List RIns:=[kI 36 0 0 [] 0 0,kI 37 0 0 [] 3 0,kI 26 0 0 [] 0 0,kI 40 0 0 [] 1 0,kI 26 0 0 [] 0 0]
def kc8:List Value:=kR 36 0 0 none 0 0 0++(kR 37 0 0 none 0 3 0++(kR 26 0 0 none 0 0 0++(kR 40 0 0 none 0 1 0++(kR 26 0 0 none 0 0 0++ []))))
theorem ks8 {w:World} {A:Nat} {T:TypeId} (h:w.heap[A]?=some (.cells kc8.toArray T (0,0))):SlAt w 10 (InsR w) (some ⟨A,0,none⟩) kl8:=sl_rows h ⟨_,_,rfl,rfl,kR_none _ _ _ _ _ _ rfl,⟨_,_,rfl,rfl,kR_none _ _ _ _ _ _ rfl,⟨_,_,rfl,rfl,kR_none _ _ _ _ _ _ rfl,⟨_,_,rfl,rfl,kR_none _ _ _ _ _ _ rfl,⟨_,_,rfl,rfl,kR_none _ _ _ _ _ _ rfl,rfl⟩⟩⟩⟩⟩
def kl9:List RIns:=[kI 99 0 0 [] 0 0,kI 26 0 0 [] 0 0]
def kc9:List Value:=kR 99 0 0 none 0 0 0++(kR 26 0 0 none 0 0 0++ [])
theorem ks9 {w:World} {A:Nat} {T:TypeId} (h:w.heap[A]?=some (.cells kc9.toArray T (0,0))):SlAt w 10 (InsR w) (some ⟨A,0,none⟩) kl9:=sl_rows h ⟨_,_,rfl,rfl,kR_none _ _ _ _ _ _ rfl,⟨_,_,rfl,rfl,kR_none _ _ _ _ _ _ rfl,rfl⟩⟩
def kl10:List RIns:=[kI 28 0 0 [] 2 0,kI 8 0 0 [] 3 0,kI 26 0 0 [] 0 0,kI 2 1 0 [] 0 0,kI 29 0 0 [] 0 0,kI 26 0 0 [] 0 0]
def kc10:List Value:=kR 28 0 0 none 0 2 0++(kR 8 0 0 none 0 3 0++(kR 26 0 0 none 0 0 0++(kR 2 1 0 none 0 0 0++(kR 29 0 0 none 0 0 0++(kR 26 0 0 none 0 0 0++ [])))))
theorem ks10 {w:World} {A:Nat} {T:TypeId} (h:w.heap[A]?=some (.cells kc10.toArray T (0,0))):SlAt w 10 (InsR w) (some ⟨A,0,none⟩) kl10:=sl_rows h ⟨_,_,rfl,rfl,kR_none _ _ _ _ _ _ rfl,⟨_,_,rfl,rfl,kR_none _ _ _ _ _ _ rfl,⟨_,_,rfl,rfl,kR_none _ _ _ _ _ _ rfl,⟨_,_,rfl,rfl,kR_none _ _ _ _ _ _ rfl,⟨_,_,rfl,rfl,kR_none _ _ _ _ _ _ rfl,⟨_,_,rfl,rfl,kR_none _ _ _ _ _ _ rfl,rfl⟩⟩⟩⟩⟩⟩
def kl11:List RIns:=[kI 36 0 0 [] 0 0,kI 37 0 0 [] 3 0,kI 39 0 0 [] 1 0,kI 40 0 0 [] 1 0,kI 36 0 0 [] 0 0,kI 37 0 0 [] 7 0,kI 39 0 0 [] 1 0,kI 40 0 0 [] 5 0,kI 2 1 0 [] 0 0,kI 26 0 0 [] 0 0]
def kc11:List Value:=kR 36 0 0 none 0 0 0++(kR 37 0 0 none 0 3 0++(kR 39 0 0 none 0 1 0++(kR 40 0 0 none 0 1 0++(kR 36 0 0 none 0 0 0++(kR 37 0 0 none 0 7 0++(kR 39 0 0 none 0 1 0++(kR 40 0 0 none 0 5 0++(kR 2 1 0 none 0 0 0++(kR 26 0 0 none 0 0 0++ [])))))))))
def kl12:List RIns:=[kI 1 1 1 [⟨1,0⟩] 0 0,kI 26 0 0 [] 0 0]
def kc12 (O:Nat):List Value:=kR 1 1 1 (some ⟨O,0,none⟩) 1 0 0++(kR 26 0 0 none 0 0 0++ [])
abbrev KO12 (O:Nat):Obj:=.cells #[.int .i64 1,.int .i64 1,.int .i64 1,.slice (some ⟨O,0,none⟩) 1 1,.int .i64 0,.int .i64 0,.int .i64 0,.string ⟨#[]⟩,.slice none 0 0,.slice none 0 0,.int .i64 26,.int .i64 0,.int .i64 0,.slice none 0 0,.int .i64 0,.int .i64 0,.int .i64 0,.string ⟨#[]⟩,.slice none 0 0,.slice none 0 0] 47
theorem ks12 {w:World} {O A:Nat} {T T':TypeId} (ho:w.heap[O]?=some (.cells #[.int .i64 1,.int .i64 0] T' (0,0))) (h:w.heap[A]?=some (.cells (kc12 O).toArray T (0,0))):SlAt w 10 (InsR w) (some ⟨A,0,none⟩) kl12:=sl_rows h ⟨_,_,rfl,rfl,kR_some ho rfl _ _ _ _ _ rfl,⟨_,_,rfl,rfl,kR_none _ _ _ _ _ _ rfl,rfl⟩⟩
def kl13:List RIns:=[kI 26 0 0 [] 0 0,kI 1 1 1 [⟨1,2⟩] 0 0,kI 26 0 0 [] 0 0]
def kc13 (O:Nat):List Value:=kR 26 0 0 none 0 0 0++(kR 1 1 1 (some ⟨O,0,none⟩) 1 0 0++(kR 26 0 0 none 0 0 0++ []))
abbrev KO13 (O:Nat):Obj:=.cells #[.int .i64 26,.int .i64 0,.int .i64 0,.slice none 0 0,.int .i64 0,.int .i64 0,.int .i64 0,.string ⟨#[]⟩,.slice none 0 0,.slice none 0 0,.int .i64 1,.int .i64 1,.int .i64 1,.slice (some ⟨O,0,none⟩) 1 1,.int .i64 0,.int .i64 0,.int .i64 0,.string ⟨#[]⟩,.slice none 0 0,.slice none 0 0,.int .i64 26,.int .i64 0,.int .i64 0,.slice none 0 0,.int .i64 0,.int .i64 0,.int .i64 0,.string ⟨#[]⟩,.slice none 0 0,.slice none 0 0] 47
theorem ks13 {w:World} {O A:Nat} {T T':TypeId} (ho:w.heap[O]?=some (.cells #[.int .i64 1,.int .i64 2] T' (0,0))) (h:w.heap[A]?=some (.cells (kc13 O).toArray T (0,0))):SlAt w 10 (InsR w) (some ⟨A,0,none⟩) kl13:=sl_rows h ⟨_,_,rfl,rfl,kR_none _ _ _ _ _ _ rfl,⟨_,_,rfl,rfl,kR_some ho rfl _ _ _ _ _ rfl,⟨_,_,rfl,rfl,kR_none _ _ _ _ _ _ rfl,rfl⟩⟩⟩
def kl14:List RIns:=[kI 1 1 1 [⟨1,2⟩] 0 0,kI 26 0 0 [] 0 0]
def kc14 (O:Nat):List Value:=kR 1 1 1 (some ⟨O,0,none⟩) 1 0 0++(kR 26 0 0 none 0 0 0++ [])
abbrev KO14 (O:Nat):Obj:=.cells #[.int .i64 1,.int .i64 1,.int .i64 1,.slice (some ⟨O,0,none⟩) 1 1,.int .i64 0,.int .i64 0,.int .i64 0,.string ⟨#[]⟩,.slice none 0 0,.slice none 0 0,.int .i64 26,.int .i64 0,.int .i64 0,.slice none 0 0,.int .i64 0,.int .i64 0,.int .i64 0,.string ⟨#[]⟩,.slice none 0 0,.slice none 0 0] 47
theorem ks14 {w:World} {O A:Nat} {T T':TypeId} (ho:w.heap[O]?=some (.cells #[.int .i64 1,.int .i64 2] T' (0,0))) (h:w.heap[A]?=some (.cells (kc14 O).toArray T (0,0))):SlAt w 10 (InsR w) (some ⟨A,0,none⟩) kl14:=sl_rows h ⟨_,_,rfl,rfl,kR_some ho rfl _ _ _ _ _ rfl,⟨_,_,rfl,rfl,kR_none _ _ _ _ _ _ rfl,rfl⟩⟩
theorem ks11R {w:World} {A:Nat} {T:TypeId} (h:w.heap[A]?=some (.cells kc11.toArray T (0,0))):SlAt w 10 (fun cs a=> ∀wx,InsR wx cs a) (some ⟨A,0,none⟩) kl11:=sl_rows h ⟨_,_,rfl,rfl,fun wx=>kR_none wx _ _ _ _ _ rfl,⟨_,_,rfl,rfl,fun wx=>kR_none wx _ _ _ _ _ rfl,⟨_,_,rfl,rfl,fun wx=>kR_none wx _ _ _ _ _ rfl,⟨_,_,rfl,rfl,fun wx=>kR_none wx _ _ _ _ _ rfl,⟨_,_,rfl,rfl,fun wx=>kR_none wx _ _ _ _ _ rfl,⟨_,_,rfl,rfl,fun wx=>kR_none wx _ _ _ _ _ rfl,⟨_,_,rfl,rfl,fun wx=>kR_none wx _ _ _ _ _ rfl,⟨_,_,rfl,rfl,fun wx=>kR_none wx _ _ _ _ _ rfl,⟨_,_,rfl,rfl,fun wx=>kR_none wx _ _ _ _ _ rfl,⟨_,_,rfl,rfl,fun wx=>kR_none wx _ _ _ _ _ rfl,rfl⟩⟩⟩⟩⟩⟩⟩⟩⟩⟩
theorem puts_map {t:VSt} (ht:trimT t.x=t.x): ∀(l:List Nat) (M:Nat->Option VM) (j:Nat),(l.map (fun k=>(k,t))).foldl putM M j=if j∈l then addV (M j) t else M j
 |[],M,j=>rfl
 |k::l,M,j=>by
  rw [List.map_cons,List.foldl_cons,puts_map ht l]
  unfold putM
  by_cases e:j=k
  ·subst e
   rw [if_pos (List.mem_cons_self ..)]
   simp only [if_true]
   by_cases h:j∈l
   ·rw [if_pos h];exact add_twice _ _ ht
   ·rw [if_neg h]
  ·simp only [e,if_false]
   by_cases h:j∈l
   ·rw [if_pos h,if_pos (List.mem_cons_of_mem _ h)]
   ·rw [if_neg h,if_neg (fun h'=>(List.mem_cons.1 h').elim e h)]
theorem puts_ext {t:VSt} (ht:trimT t.x=t.x) {l m:List Nat} (h: ∀j,j∈l↔j∈m) (M:Nat->Option VM):(l.map (fun k=>(k,t))).foldl putM M=(m.map (fun k=>(k,t))).foldl putM M:=by
 funext j
 rw [puts_map ht,puts_map ht]
 by_cases c:j∈l
 ·rw [if_pos c,if_pos ((h j).1 c)]
 ·rw [if_neg c,if_neg (fun x=>c ((h j).2 x))]
structure JumpOk (n i:Nat) (x:RIns):Prop where
 case: ∀c∈x.cases,(i:Int)<c.to/\c.to<n
 sel:x.cases≠ []->x.op=12
 «to»:toB x.op=true->0<=x.to/\x.to<n
 fwd:toB x.op=true->x.op≠39->x.op≠40->(i:Int)<x.to
 non:toB x.op=false->x.op≠28->x.to=0
def tosV (i:Nat) (x:RIns):List Nat:=(if toB x.op=true/\(i:Int)<x.to then [x.to.toNat]else [])++x.cases.map (fun c=>c.to.toNat)
theorem adds_tos (u:RUnit) (i:Nat) (s:VSt) (x:RIns):addsV u i s x=(tosV i x).map (fun k=>(k,toV s x))++((if raises x.op=true/\s.tries≠ []then [((lastT s.tries).toNat,handV s)]else [])++(if followsV x.op=true then [(i+1,nextV u i s x)]else [])):=by
 unfold addsV tosV
 rw [List.map_append,List.append_assoc,List.map_map]
 congr 1
 split<;>rfl
def goB (i:Nat) (x:RIns) (k:Int):Bool:=decide ((i:Int)+1<k)||(decide (k=(i:Int)+1)&&((decide (x.to=k)&& !decide (x.op=28))||x.cases.any (fun c=>decide (c.to=k))))
def passL (i:Nat) (s t:VSt) (x:RIns):List Int->(Nat->Option VM)->Int × (Nat->Option VM)
 |[],M=>(0,M)
 |k::l,M=>if goB i x k=true then passL i s t x l (putM M (k.toNat,t))else if k<=i/\backB (stM M k.toNat) s=true then(184,M)else passL i s t x l M
def SuccOk (n i:Nat) (x:RIns) (ks:List Int):Prop:= ∀k,k∈ks↔k∈targetsV i x/\0<=k/\k<n
theorem goB_gt {i:Nat} {x:RIns} {k:Int} (h:goB i x k=true):(i:Int)<k:=by
 unfold goB at h
 simp at h
 omega
theorem go_mem {n i:Nat} {x:RIns} {ks:List Int} (hk:SuccOk n i x ks) (hj:JumpOk n i x) (j:Nat):j∈(ks.filter (goB i x)).map Int.toNat↔j∈tosV i x:=by
 constructor
 ·intro h
  obtain⟨k,hk1,rfl⟩:=List.mem_map.1 h
  obtain⟨h1,h2⟩:=List.mem_filter.1 hk1
  obtain⟨h3,h4,h5⟩:=(hk k).1 h1
  have hgt:=goB_gt h2
  unfold tosV
  unfold targetsV at h3
  rcases List.mem_append.1 h3 with h3|h3
  ·have hf:k=(i:Int)+1:=by
    by_cases c:followsV x.op=true
    ·rw [if_pos c]at h3;simpa using h3
    ·rw [if_neg c]at h3;simp at h3
   unfold goB at h2
   rw [Bool.or_eq_true,Bool.and_eq_true,Bool.or_eq_true,Bool.and_eq_true]at h2
   rcases h2 with h2|⟨-,⟨h2,h6⟩|h2⟩
   ·have:=of_decide_eq_true h2;omega
   ·have e1:=of_decide_eq_true h2
    have e2:x.op≠28:=by simpa using h6
    by_cases c:toB x.op=true
    ·refine List.mem_append_left _ ?_
     rw [if_pos ⟨c,by omega⟩,e1];exact List.mem_singleton.2 rfl
    ·have:=hj.non (by simpa using c) e2;omega
   ·obtain⟨c,hc1,hc2⟩:=List.any_eq_true.1 h2
    refine List.mem_append_right _ (List.mem_map.2 ⟨c,hc1,?_⟩)
    rw [of_decide_eq_true hc2]
  ·rcases List.mem_append.1 h3 with h3|h3
   ·by_cases c:toB x.op=true
    ·rw [if_pos c]at h3
     have e:=List.mem_singleton.1 h3
     refine List.mem_append_left _ ?_
     rw [if_pos ⟨c,by omega⟩,e];exact List.mem_singleton.2 rfl
    ·rw [if_neg c]at h3;simp at h3
   ·by_cases c:x.op=12
    ·rw [if_pos c]at h3
     obtain⟨c,hc1,hc2⟩:=List.mem_map.1 h3
     exact List.mem_append_right _ (List.mem_map.2 ⟨c,hc1,by rw [hc2]⟩)
    ·rw [if_neg c]at h3;simp at h3
 ·intro h
  unfold tosV at h
  rcases List.mem_append.1 h with h|h
  ·by_cases c:toB x.op=true/\(i:Int)<x.to
   ·rw [if_pos c]at h
    have e:=List.mem_singleton.1 h
    have h1:=hj.to c.1
    refine List.mem_map.2 ⟨x.to,List.mem_filter.2 ⟨(hk _).2 ⟨?_,h1.1,h1.2⟩,?_⟩,e.symm⟩
    ·unfold targetsV
     refine List.mem_append_right _ (List.mem_append_left _ ?_)
     rw [if_pos c.1];exact List.mem_singleton.2 rfl
    ·have h28:x.op≠28:=fun e=>by rw [e]at c;exact absurd c.1 (by decide)
     unfold goB
     by_cases d:(i:Int)+1<x.to
     ·rw [decide_eq_true d];rfl
     ·rw [decide_eq_false d,decide_eq_true (show x.to=(i:Int)+1 by omega),decide_eq_false h28];simp
   ·rw [if_neg c]at h;simp at h
  ·obtain⟨c,hc1,rfl⟩:=List.mem_map.1 h
   have h1:=hj.case c hc1
   have h2:=hj.sel (fun e=>by rw [e]at hc1;cases hc1)
   refine List.mem_map.2 ⟨c.to,List.mem_filter.2 ⟨(hk _).2 ⟨?_,by omega,h1.2⟩,?_⟩,rfl⟩
   ·unfold targetsV
    refine List.mem_append_right _ (List.mem_append_right _ ?_)
    rw [if_pos h2];exact List.mem_map.2 ⟨c,hc1,rfl⟩
   ·unfold goB
    by_cases d:(i:Int)+1<c.to
    ·rw [decide_eq_true d];rfl
    ·have e:x.cases.any (fun c'=>decide (c'.to=c.to))=true:=List.any_eq_true.2 ⟨c,hc1,decide_eq_true rfl⟩
     rw [decide_eq_false d,decide_eq_true (show c.to=(i:Int)+1 by omega),e];simp
theorem back_is {n i:Nat} {x:RIns} {k:Int} (hj:JumpOk n i x) (h:k∈targetsV i x) (hi:k<=i):toB x.op=true/\k=x.to:=by
 unfold targetsV at h
 rcases List.mem_append.1 h with h|h
 ·by_cases c:followsV x.op=true
  ·rw [if_pos c]at h;have:=List.mem_singleton.1 h;omega
  ·rw [if_neg c]at h;simp at h
 ·rcases List.mem_append.1 h with h|h
  ·by_cases c:toB x.op=true
   ·rw [if_pos c]at h;exact⟨c,List.mem_singleton.1 h⟩
   ·rw [if_neg c]at h;simp at h
  ·by_cases c:x.op=12
   ·rw [if_pos c]at h
    obtain⟨c,hc1,hc2⟩:=List.mem_map.1 h
    have:=hj.case c hc1
    omega
   ·rw [if_neg c]at h;simp at h
theorem pass_loop {n i:Nat} {s t:VSt} {x:RIns} (hj:JumpOk n i x): ∀(ks:List Int) (M:Nat->Option VM),(∀k∈ks,k∈targetsV i x) ->
  (passL i s t x ks M).1=(if(∃k∈ks,k<=i)/\backB (stM M x.to.toNat) s=true then 184 else 0)/\((passL i s t x ks M).1=0->(passL i s t x ks M).2=(((ks.filter (goB i x)).map Int.toNat).map (fun k=>(k,t))).foldl putM M)
 |[],M,_=>⟨by rw [if_neg (by simp)];rfl,fun _=>rfl⟩
 |k::ks,M,hks=>by
  by_cases g:goB i x k=true
  ·have hgt:=goB_gt g
   obtain⟨h1,h2⟩:=pass_loop hj ks (putM M (k.toNat,t)) (fun k' h=>hks k' (List.mem_cons_of_mem _ h))
   have e:passL i s t x (k::ks) M=passL i s t x ks (putM M (k.toNat,t)):=by rw [passL,if_pos g]
   rw [e]
   refine⟨?_,fun h0=>?_⟩
   ·rw [h1]
    by_cases c: ∃k'∈ks,k'<=(i:Int)
    ·obtain⟨k',hk',hle⟩:=c
     obtain⟨-,e2⟩:=back_is hj (hks k' (List.mem_cons_of_mem _ hk')) hle
     have e3:stM (putM M (k.toNat,t)) x.to.toNat=stM M x.to.toNat:=by
      unfold stM putM
      rw [if_neg (show¬x.to.toNat=k.toNat by omega)]
     rw [e3]
     have c1: ∃k'∈ks,k'<=(i:Int):=⟨k',hk',hle⟩
     have c2: ∃k'∈k::ks,k'<=(i:Int):=⟨k',List.mem_cons_of_mem _ hk',hle⟩
     by_cases d:backB (stM M x.to.toNat) s=true
     ·rw [if_pos ⟨c1,d⟩,if_pos ⟨c2,d⟩]
     ·rw [if_neg (fun h=>d h.2),if_neg (fun h=>d h.2)]
    ·rw [if_neg (fun h=>c h.1),if_neg]
     rintro⟨⟨k',hk',hle⟩,-⟩
     rcases List.mem_cons.1 hk' with rfl|hk'
     ·omega
     ·exact c ⟨k',hk',hle⟩
   ·rw [h2 h0,List.filter_cons_of_pos g];rfl
  ·have g':goB i x k=false:=by simpa using g
   obtain⟨h1,h2⟩:=pass_loop hj ks M (fun k' h=>hks k' (List.mem_cons_of_mem _ h))
   by_cases c:k<=(i:Int)
   ·obtain⟨-,e2⟩:=back_is hj (hks k (List.mem_cons_self ..)) c
    by_cases d:backB (stM M k.toNat) s=true
    ·have e:passL i s t x (k::ks) M=(184,M):=by rw [passL,if_neg g,if_pos ⟨c,d⟩]
     rw [e]
     refine⟨?_,fun h0=>absurd (show(184:Int)=0 from h0) (by decide)⟩
     rw [if_pos ⟨⟨k,List.mem_cons_self ..,c⟩,by rw [<-e2];exact d⟩]
    ·have e:passL i s t x (k::ks) M=passL i s t x ks M:=by rw [passL,if_neg g,if_neg (fun h=>d h.2)]
     rw [e]
     refine⟨?_,fun h0=>?_⟩
     ·rw [h1,if_neg (fun h=>d (by rw [e2];exact h.2)),if_neg (fun h=>d (by rw [e2];exact h.2))]
     ·rw [h2 h0,List.filter_cons_of_neg (by rw [g'];decide)]
   ·have e:passL i s t x (k::ks) M=passL i s t x ks M:=by rw [passL,if_neg g,if_neg (fun h=>c h.1)]
    rw [e]
    refine⟨?_,fun h0=>?_⟩
    ·rw [h1]
     have e1:(∃k'∈k::ks,k'<=(i:Int))↔ ∃k'∈ks,k'<=(i:Int):=⟨fun⟨k',h,hle⟩=>(List.mem_cons.1 h).elim (fun e=>absurd hle (by rw [e];exact c)) fun h=>⟨k',h,hle⟩,fun⟨k',h,hle⟩=>⟨k',List.mem_cons_of_mem _ h,hle⟩⟩
     simp only [e1]
    ·rw [h2 h0,List.filter_cons_of_neg (by rw [g'];decide)]
theorem pass_is {n i:Nat} {s t:VSt} {x:RIns} {ks:List Int} (hk:SuccOk n i x ks) (hj:JumpOk n i x) (ht:trimT t.x=t.x) (hi:i<n) (M:Nat->Option VM):
  (passL i s t x ks M).1=(if toB x.op=true/\x.to<=i/\backB (stM M x.to.toNat) s=true then 184 else 0)/\((passL i s t x ks M).1=0->(passL i s t x ks M).2=((tosV i x).map (fun k=>(k,t))).foldl putM M):=by
 obtain⟨h1,h2⟩:=pass_loop (s:=s) (t:=t) hj ks M (fun k h=>((hk k).1 h).1)
 refine⟨?_,fun h0=>?_⟩
 ·rw [h1]
  have e:(∃k∈ks,k<=(i:Int))↔toB x.op=true/\x.to<=i:=by
   constructor
   ·rintro⟨k,hk1,hle⟩
    obtain⟨a,b⟩:=back_is hj ((hk k).1 hk1).1 hle
    exact⟨a,by omega⟩
   ·rintro⟨a,b⟩
    obtain⟨c,d⟩:=hj.to a
    refine⟨x.to,(hk _).2 ⟨?_,c,d⟩,b⟩
    unfold targetsV
    refine List.mem_append_right _ (List.mem_append_left _ ?_)
    rw [if_pos a];exact List.mem_singleton.2 rfl
  simp only [e,and_assoc]
 ·rw [h2 h0];exact puts_ext ht (go_mem hk hj) M
def opTwo:List (List UInt8):=[[43],[42],[100,105,118],[114,101,109],[98,97,110,100],[98,111,114],[98,120,111,114],[98,115,108],[98,115,114],[97,110,100],[111,114],[120,111,114],[61,58,61],[61,47,61],[60],[61,60],[62],[62,61],[43,43]]
def operB (s:ByteArray) (n:Int):Bool:=
 if s.toList== [45]then n==1||n==2 else if s.toList== [98,110,111,116]||s.toList== [110,111,116]then n==1 else if opTwo.any (fun x=>s.toList==x)then n==2 else false
theorem operator_any (s:ByteArray) (n:Int) (w:World):Calls Tryz.prog 74 #[.string s,.int .i64 n] w fun e w'=>e= .returned (.bool (operB s n))/\w=w':=by
 cases t0:(s.toList== [45])with
 |true=>
  have E:Hid (operB s n=(n==1||n==2)):=Lib.hid (by unfold operB;rw [t0];rfl)
  cases q1:(n==1)with
  |true=>
   rw [q1]at E
   go_enter Tryz.func74,Tryz.ntmps74
   go_wp2_with fail
   go_ret
   exact⟨retb E.out.symm,rfl⟩
  |false=>
   rw [q1]at E
   go_enter Tryz.func74,Tryz.ntmps74
   go_wp2_with fail
   go_ret
   exact⟨retb E.out.symm,rfl⟩
 |false=>
  cases t1:(s.toList== [98,110,111,116])with
  |true=>
    have E:Hid (operB s n=(n==1)):=Lib.hid (by unfold operB;rw [t0,t1];rfl)
    go_enter Tryz.func74,Tryz.ntmps74
    go_wp2_with fail
    go_ret
    exact⟨retb E.out.symm,rfl⟩
  |false=>
  cases t2:(s.toList== [110,111,116])with
  |true=>
   have E:Hid (operB s n=(n==1)):=Lib.hid (by unfold operB;rw [t0,t1,t2];rfl)
   go_enter Tryz.func74,Tryz.ntmps74
   go_wp2_with fail
   go_ret
   exact⟨retb E.out.symm,rfl⟩
  |false=>
   cases t3:(s.toList== [43])with
   |true=>
     have E:Hid (operB s n=(n==2)):=Lib.hid (by unfold operB opTwo;simp only [List.any_cons,List.any_nil,t0,t1,t2,t3,Bool.false_or,Bool.or_false,Bool.true_or,Bool.or_true,if_true];rfl)
     go_enter Tryz.func74,Tryz.ntmps74
     go_wp2_with fail
     go_ret
     exact⟨retb E.out.symm,rfl⟩
   |false=>
   cases t4:(s.toList== [42])with
   |true=>
    have E:Hid (operB s n=(n==2)):=Lib.hid (by unfold operB opTwo;simp only [List.any_cons,List.any_nil,t0,t1,t2,t3,t4,Bool.false_or,Bool.or_false,Bool.true_or,Bool.or_true,if_true];rfl)
    go_enter Tryz.func74,Tryz.ntmps74
    go_wp2_with fail
    go_ret
    exact⟨retb E.out.symm,rfl⟩
   |false=>
    cases t5:(s.toList== [100,105,118])with
    |true=>
      have E:Hid (operB s n=(n==2)):=Lib.hid (by unfold operB opTwo;simp only [List.any_cons,List.any_nil,t0,t1,t2,t3,t4,t5,Bool.false_or,Bool.or_false,Bool.true_or,Bool.or_true,if_true];rfl)
      go_enter Tryz.func74,Tryz.ntmps74
      go_wp2_with fail
      go_ret
      exact⟨retb E.out.symm,rfl⟩
    |false=>
    cases t6:(s.toList== [114,101,109])with
    |true=>
     have E:Hid (operB s n=(n==2)):=Lib.hid (by unfold operB opTwo;simp only [List.any_cons,List.any_nil,t0,t1,t2,t3,t4,t5,t6,Bool.false_or,Bool.or_false,Bool.true_or,Bool.or_true,if_true];rfl)
     go_enter Tryz.func74,Tryz.ntmps74
     go_wp2_with fail
     go_ret
     exact⟨retb E.out.symm,rfl⟩
    |false=>
     cases t7:(s.toList== [98,97,110,100])with
     |true=>
       have E:Hid (operB s n=(n==2)):=Lib.hid (by unfold operB opTwo;simp only [List.any_cons,List.any_nil,t0,t1,t2,t3,t4,t5,t6,t7,Bool.false_or,Bool.or_false,Bool.true_or,Bool.or_true,if_true];rfl)
       go_enter Tryz.func74,Tryz.ntmps74
       go_wp2_with fail
       go_ret
       exact⟨retb E.out.symm,rfl⟩
     |false=>
     cases t8:(s.toList== [98,111,114])with
     |true=>
      have E:Hid (operB s n=(n==2)):=Lib.hid (by unfold operB opTwo;simp only [List.any_cons,List.any_nil,t0,t1,t2,t3,t4,t5,t6,t7,t8,Bool.false_or,Bool.or_false,Bool.true_or,Bool.or_true,if_true];rfl)
      go_enter Tryz.func74,Tryz.ntmps74
      go_wp2_with fail
      go_ret
      exact⟨retb E.out.symm,rfl⟩
     |false=>
      cases t9:(s.toList== [98,120,111,114])with
      |true=>
        have E:Hid (operB s n=(n==2)):=Lib.hid (by unfold operB opTwo;simp only [List.any_cons,List.any_nil,t0,t1,t2,t3,t4,t5,t6,t7,t8,t9,Bool.false_or,Bool.or_false,Bool.true_or,Bool.or_true,if_true];rfl)
        go_enter Tryz.func74,Tryz.ntmps74
        go_wp2_with fail
        go_ret
        exact⟨retb E.out.symm,rfl⟩
      |false=>
      cases t10:(s.toList== [98,115,108])with
      |true=>
       have E:Hid (operB s n=(n==2)):=Lib.hid (by unfold operB opTwo;simp only [List.any_cons,List.any_nil,t0,t1,t2,t3,t4,t5,t6,t7,t8,t9,t10,Bool.false_or,Bool.or_false,Bool.true_or,Bool.or_true,if_true];rfl)
       go_enter Tryz.func74,Tryz.ntmps74
       go_wp2_with fail
       go_ret
       exact⟨retb E.out.symm,rfl⟩
      |false=>
       cases t11:(s.toList== [98,115,114])with
       |true=>
         have E:Hid (operB s n=(n==2)):=Lib.hid (by unfold operB opTwo;simp only [List.any_cons,List.any_nil,t0,t1,t2,t3,t4,t5,t6,t7,t8,t9,t10,t11,Bool.false_or,Bool.or_false,Bool.true_or,Bool.or_true,if_true];rfl)
         go_enter Tryz.func74,Tryz.ntmps74
         go_wp2_with fail
         go_ret
         exact⟨retb E.out.symm,rfl⟩
       |false=>
       cases t12:(s.toList== [97,110,100])with
       |true=>
        have E:Hid (operB s n=(n==2)):=Lib.hid (by unfold operB opTwo;simp only [List.any_cons,List.any_nil,t0,t1,t2,t3,t4,t5,t6,t7,t8,t9,t10,t11,t12,Bool.false_or,Bool.or_false,Bool.true_or,Bool.or_true,if_true];rfl)
        go_enter Tryz.func74,Tryz.ntmps74
        go_wp2_with fail
        go_ret
        exact⟨retb E.out.symm,rfl⟩
       |false=>
        cases t13:(s.toList== [111,114])with
        |true=>
          have E:Hid (operB s n=(n==2)):=Lib.hid (by unfold operB opTwo;simp only [List.any_cons,List.any_nil,t0,t1,t2,t3,t4,t5,t6,t7,t8,t9,t10,t11,t12,t13,Bool.false_or,Bool.or_false,Bool.true_or,Bool.or_true,if_true];rfl)
          go_enter Tryz.func74,Tryz.ntmps74
          go_wp2_with fail
          go_ret
          exact⟨retb E.out.symm,rfl⟩
        |false=>
        cases t14:(s.toList== [120,111,114])with
        |true=>
         have E:Hid (operB s n=(n==2)):=Lib.hid (by unfold operB opTwo;simp only [List.any_cons,List.any_nil,t0,t1,t2,t3,t4,t5,t6,t7,t8,t9,t10,t11,t12,t13,t14,Bool.false_or,Bool.or_false,Bool.true_or,Bool.or_true,if_true];rfl)
         go_enter Tryz.func74,Tryz.ntmps74
         go_wp2_with fail
         go_ret
         exact⟨retb E.out.symm,rfl⟩
        |false=>
         cases t15:(s.toList== [61,58,61])with
         |true=>
           have E:Hid (operB s n=(n==2)):=Lib.hid (by unfold operB opTwo;simp only [List.any_cons,List.any_nil,t0,t1,t2,t3,t4,t5,t6,t7,t8,t9,t10,t11,t12,t13,t14,t15,Bool.false_or,Bool.or_false,Bool.true_or,Bool.or_true,if_true];rfl)
           go_enter Tryz.func74,Tryz.ntmps74
           go_wp2_with fail
           go_ret
           exact⟨retb E.out.symm,rfl⟩
         |false=>
         cases t16:(s.toList== [61,47,61])with
         |true=>
          have E:Hid (operB s n=(n==2)):=Lib.hid (by unfold operB opTwo;simp only [List.any_cons,List.any_nil,t0,t1,t2,t3,t4,t5,t6,t7,t8,t9,t10,t11,t12,t13,t14,t15,t16,Bool.false_or,Bool.or_false,Bool.true_or,Bool.or_true,if_true];rfl)
          go_enter Tryz.func74,Tryz.ntmps74
          go_wp2_with fail
          go_ret
          exact⟨retb E.out.symm,rfl⟩
         |false=>
          cases t17:(s.toList== [60])with
          |true=>
            have E:Hid (operB s n=(n==2)):=Lib.hid (by unfold operB opTwo;simp only [List.any_cons,List.any_nil,t0,t1,t2,t3,t4,t5,t6,t7,t8,t9,t10,t11,t12,t13,t14,t15,t16,t17,Bool.false_or,Bool.or_false,Bool.true_or,Bool.or_true,if_true];rfl)
            go_enter Tryz.func74,Tryz.ntmps74
            go_wp2_with fail
            go_ret
            exact⟨retb E.out.symm,rfl⟩
          |false=>
          cases t18:(s.toList== [61,60])with
          |true=>
           have E:Hid (operB s n=(n==2)):=Lib.hid (by unfold operB opTwo;simp only [List.any_cons,List.any_nil,t0,t1,t2,t3,t4,t5,t6,t7,t8,t9,t10,t11,t12,t13,t14,t15,t16,t17,t18,Bool.false_or,Bool.or_false,Bool.true_or,Bool.or_true,if_true];rfl)
           go_enter Tryz.func74,Tryz.ntmps74
           go_wp2_with fail
           go_ret
           exact⟨retb E.out.symm,rfl⟩
          |false=>
           cases t19:(s.toList== [62])with
           |true=>
             have E:Hid (operB s n=(n==2)):=Lib.hid (by unfold operB opTwo;simp only [List.any_cons,List.any_nil,t0,t1,t2,t3,t4,t5,t6,t7,t8,t9,t10,t11,t12,t13,t14,t15,t16,t17,t18,t19,Bool.false_or,Bool.or_false,Bool.true_or,Bool.or_true,if_true];rfl)
             go_enter Tryz.func74,Tryz.ntmps74
             go_wp2_with fail
             go_ret
             exact⟨retb E.out.symm,rfl⟩
           |false=>
           cases t20:(s.toList== [62,61])with
           |true=>
            have E:Hid (operB s n=(n==2)):=Lib.hid (by unfold operB opTwo;simp only [List.any_cons,List.any_nil,t0,t1,t2,t3,t4,t5,t6,t7,t8,t9,t10,t11,t12,t13,t14,t15,t16,t17,t18,t19,t20,Bool.false_or,Bool.or_false,Bool.true_or,Bool.or_true,if_true];rfl)
            go_enter Tryz.func74,Tryz.ntmps74
            go_wp2_with fail
            go_ret
            exact⟨retb E.out.symm,rfl⟩
           |false=>
            cases t21:(s.toList== [43,43])with
            |true=>
              have E:Hid (operB s n=(n==2)):=Lib.hid (by unfold operB opTwo;simp only [List.any_cons,List.any_nil,t0,t1,t2,t3,t4,t5,t6,t7,t8,t9,t10,t11,t12,t13,t14,t15,t16,t17,t18,t19,t20,t21,Bool.false_or,Bool.or_false,Bool.true_or,Bool.or_true,if_true];rfl)
              go_enter Tryz.func74,Tryz.ntmps74
              go_wp2_with fail
              go_ret
              exact⟨retb E.out.symm,rfl⟩
            |false=>
            have E:Hid (operB s n=false):=Lib.hid (by unfold operB opTwo;simp only [List.any_cons,List.any_nil,t0,t1,t2,t3,t4,t5,t6,t7,t8,t9,t10,t11,t12,t13,t14,t15,t16,t17,t18,t19,t20,t21,Bool.false_or];rfl)
            go_enter Tryz.func74,Tryz.ntmps74
            go_wp2_with fail
            go_ret
            exact⟨retb E.out.symm,rfl⟩
def dgt (m:Nat):UInt8:=UInt8.ofNat (48+m%10)
def digF:Nat->Nat->List UInt8
 |0,_=>[]
 |f+1,m=>if m<10 then [dgt m]else digF f (m/10)++ [dgt m]
def dig (m:Nat):List UInt8:=digF (m+1) m
theorem digF_eq: ∀(f g m:Nat),m<f->m<g->digF f m=digF g m
 |0,_,_,h,_=>absurd h (Nat.not_lt_zero _)
 |_,0,_,_,h=>absurd h (Nat.not_lt_zero _)
 |f+1,g+1,m,h1,h2=>by
  unfold digF
  by_cases h:m<10
  ·rw [if_pos h,if_pos h]
  ·rw [if_neg h,if_neg h,digF_eq f g (m/10) (by omega) (by omega)]
theorem dig_small {m:Nat} (h:m<10):dig m= [dgt m]:=by unfold dig digF;rw [if_pos h]
theorem dig_big {m:Nat} (h: ¬m<10):dig m=dig (m/10)++ [dgt m]:=by
 unfold dig
 rw [show digF (m+1) m=digF m (m/10)++ [dgt m]by rw [digF,if_neg h],digF_eq m (m/10+1) (m/10) (by omega) (by omega)]
theorem dig_len: ∀(k m:Nat),m<10^(k+1)->(dig m).length<=k+1
 |0,m,h=>by rw [dig_small (by omega)];simp
 |k+1,m,h=>by
  by_cases hs:m<10
  ·rw [dig_small hs];simp
  ·have:=dig_len k (m/10) (by rw [Nat.pow_succ]at h;omega)
   rw [dig_big hs];simp;omega
theorem dig_len20 {m:Nat} (h:m<=18446744073709551616):(dig m).length<=20:=dig_len 19 m (by omega)
def txt (n:Int):List UInt8:=if n<0 then 45::dig n.natAbs else dig n.natAbs
def byteCells (cs:List UInt8):Array Value:=(cs.map fun b=>Value.int .u8 (b.toNat:Int)).toArray
theorem byteCells_get {cs:List UInt8} {j:Nat} (h:j<cs.length):(byteCells cs)[j]?=some (.int .u8 (cs[j].toNat:Int)):=by
 simp [byteCells,h]
theorem byteCells_set (cs:List UInt8) (j:Nat) (d:UInt8):(byteCells cs).setIfInBounds j (.int .u8 (d.toNat:Int))=byteCells (cs.set j d):=by
 simp [byteCells,List.map_set]
theorem dgt_toNat (m:Nat):((dgt m).toNat:Int)=48+(m:Int)%10:=by
 unfold dgt
 have h:(UInt8.ofNat (48+m%10)).toNat=(48+m%10)%256:=UInt8.toNat_ofNat'
 rw [h];omega
theorem drop_set (cs:List UInt8) (k:Nat) (d:UInt8) (h:k<cs.length):(cs.set k d).drop k=d::cs.drop (k+1):=by
 rw [List.drop_eq_getElem_cons (by simpa using h),List.drop_set_of_lt (by omega)]
 simp
theorem pow10 (j:Nat):(10:Nat)^(j+1)=10^j*10:=Nat.pow_succ ..
theorem size_any (a:Int) (w:World) (ha:I64 a):
  Calls Tryz.prog 159 #[.int .i64 a] w fun e w'=>e= .returned (.int .u64 a.natAbs)/\w=w':=by
 obtain⟨a1,a2⟩:=ha
 go_enter Tryz.func159,Tryz.ntmps159
 go_wp2
 ·go_ret
  exact⟨ret1 (by
    have:a<0:=by assumption
    rw [IntKind.wrap_u64,IntKind.wrap_u64];omega),rfl⟩
 ·go_ret
  exact⟨ret1 (by
    have:0<=a:=by assumption
    omega),rfl⟩
theorem slice20 (B:Nat) (l:Int) (k:Nat) (hl:l=k) (hk:k<20) (w:World):
  (Instr.sliceAt 212 (.pointer (some ⟨B,0,none⟩)) (some (.int .i64 l)) none none).run Tryz.prog w= .ok (.slice (some ⟨B,k,none⟩) (20-k) (20-k)) w:=by
 subst hl
 have e:Tryz.prog.arrayLen 212=20:=by kernel_rfl
 have ee:Tryz.prog.elem 212=5:=by kernel_rfl
 rw [run_sliceAt_array_l w 212 ⟨B,0,none⟩ (by rw [e,ee];exact Tryz.underlying212) .i64 k (by omega) (by rw [e];omega),e,ee]
 simp [go_sem,slicedAt,Addr.add]
 rw [if_neg (by omega)]
 split<;>simp_all
theorem conv20 (B k L:Nat) (hL:L=20-k) (l cs:List UInt8) (w:World) (hh:w.heap[B]?=some (.cells (byteCells cs) 212 (0,0))) (hl:cs.length=20) (e:l=cs.drop k):
  (convert 201 9 (.slice (some ⟨B,k,none⟩) L L)).run Tryz.prog w= .ok (.string ⟨l.toArray⟩) w:=by
 subst e hL
 have:=run_convert_bytes_back (P:=Tryz.prog) w 201 9 5 ⟨B,k,none⟩ (20-k) (cs.drop k) Tryz.underlying201 Tryz.underlying5 Tryz.underlying9 (fun j hj=>by
  have hp:(⟨B,k,none⟩:Addr).add j=⟨B,k+j,none⟩:=by unfold Addr.add;split<;>simp_all
  rw [hp,cell_of_row _ _ _ _ _ _ hh,byteCells_get (by simp at hj;omega)]
  simp)
 rw [List.length_drop,hl]at this
 exact this
theorem text_any (n:Int) (w:World) (hn:I64 n):
  Calls Tryz.prog 126 #[.int .i64 n] w fun e w'=>e= .returned (.string ⟨(txt n).toArray⟩)/\Below w.heap.size w w':=by
 go_enter Tryz.func126,Tryz.ntmps126
 go_wp2_with (go_at_call 159;refine(size_any _ _ hn).mono ?_;rintro e w1 ⟨rfl,rfl⟩)
 go_loopw [4,5] (fun v l wr=> ∃(k m:Nat) (cs:List UInt8),v= .int .i64 k/\l= .int .u64 m/\2<=k/\k<=20/\m<10^(k-1)/\m<=9223372036854775808/\cs.length=20/\wr.heap[w.heap.size]?=some (.cells (byteCells cs) 212 (0,0))/\Below w.heap.size w wr/\Hid (dig n.natAbs=dig m++cs.drop k)) (fun v _ _=>(intOf v).toNat)
 case atStart=>exact⟨20,n.natAbs,List.replicate 20 0,rfl,rfl,by omega,by omega,by have:=hn.1;have:=hn.2;omega,by have:=hn.1;have:=hn.2;omega,rfl,heap_alloc_new _ _,(Below.refl _ _).alloc (Nat.le_refl _) _,by simp [Hid]⟩
 case round=>
  obtain⟨k,m,cs,rfl,rfl,hk1,hk2,hm,hm2,hl,hh,hB,HD⟩:=hrel
  obtain⟨j,rfl⟩: ∃j,k=j+2:=⟨k-2,by omega⟩
  rename World=>wr
  have HM:=Lib.hid hm;clear hm
  have HL:=Lib.hid hl;clear hl
  have hcell:wr.cell? ⟨w.heap.size,j+1,none⟩=some (.int .u8 (cs[j+1]'(by rw [HL.out];omega)).toNat):=by rw [cell_of_row _ _ _ _ _ _ hh];exact byteCells_get _
  have hcell0:wr.cell? ⟨w.heap.size,j,none⟩=some (.int .u8 (cs[j]'(by rw [HL.out];omega)).toNat):=by rw [cell_of_row _ _ _ _ _ _ hh];exact byteCells_get _
  have hfz0:wr.frozen? ⟨w.heap.size,j,none⟩=false:=frozen_of_row _ _ _ _ _ hh
  have hfz:wr.frozen? ⟨w.heap.size,j+1,none⟩=false:=frozen_of_row _ _ _ _ _ hh
  have hh1:(wr.setCell ⟨w.heap.size,j+1,none⟩ (.int .u8 (48+(m:Int)%10))).heap[w.heap.size]?=some (.cells (byteCells (cs.set (j+1) (dgt m))) 212 (0,0)):=by
   rw [heap_setCell_same _ _ _ _ _ _ hh,<-dgt_toNat,byteCells_set]
  have hd1:(cs.set (j+1) (dgt m)).drop (j+1)=dgt m::cs.drop (j+2):=drop_set _ _ _ (by rw [HL.out];omega)
  have hl1:(cs.set (j+1) (dgt m)).length=20:=by rw [List.length_set];exact HL.out
  have hB1:Below w.heap.size w (wr.setCell ⟨w.heap.size,j+1,none⟩ (.int .u8 (48+(m:Int)%10))):=hB.setCell (Nat.le_refl _) _
  have HH:=Lib.hid hh;have HH1:=Lib.hid hh1;have HD1:=Lib.hid hd1;have HL1:=Lib.hid hl1;clear hh hh1 hd1 hl1
  by_cases small:m<10
  ·have hdm:=dig_small small
   have HDM:=Lib.hid hdm;clear hdm
   have HT:Hid (dig n.natAbs=dgt m::cs.drop (j+2)):=by have:=HD.out;rw [HDM.out]at this;exact this
   by_cases neg:n<0
   ·have hh2:((wr.setCell ⟨w.heap.size,j+1,none⟩ (.int .u8 (48+(m:Int)%10))).setCell ⟨w.heap.size,j,none⟩ (.int .u8 45)).heap[w.heap.size]?=some (.cells (byteCells ((cs.set (j+1) (dgt m)).set j 45)) 212 (0,0)):=by
     exact(heap_setCell_same _ _ _ _ _ _ HH1.out).trans (congrArg (fun x=>some (Obj.cells x 212 (0,0))) (byteCells_set _ j 45))
    have hcv:=conv20 w.heap.size j (20-j) rfl (txt n) _ _ hh2 (by rw [List.length_set];exact HL1.out) (by rw [drop_set _ _ _ (by rw [HL1.out];omega),HD1.out,txt,if_pos neg,HT.out])
    have hsl:=slice20 w.heap.size ((j:Int)+2-1-1) j (by omega) (by omega)
    clear hh2
    go_wp2
    go_ret
    exact⟨rfl,hB1.setCell (Nat.le_refl _) _⟩
   ·have hcv:=conv20 w.heap.size (j+1) (19-j) (by omega) (txt n) _ _ HH1.out HL1.out (by rw [HD1.out,txt,if_neg neg,HT.out])
    have hsl:=slice20 w.heap.size ((j:Int)+2-1) (j+1) (by omega) (by omega)
    go_wp2
    go_ret
    exact⟨rfl,hB1⟩
  ·have hdm:=dig_big small
   have HDM:=Lib.hid hdm;clear hdm
   go_wp2
   go_roundw
   case rel=>
    have hj:1<=j:=by
     rcases Nat.eq_zero_or_pos j with h|h
     ·have:=HM.out;subst h;omega
     ·exact h
    refine⟨j+1,m/10,cs.set (j+1) (dgt m),by go_num,by go_num,by omega,by omega,?_,by omega,HL1.out,HH1.out,hB1,?_⟩
    ·have:=HM.out
     obtain⟨i,rfl⟩: ∃i,j=i+1:=⟨j-1,by omega⟩
     rw [show i+1+2-1=i+1+1 by omega,pow10]at this
     rw [show i+1+1-1=i+1 by omega]
     omega
    ·exact Lib.hid (by rw [HD.out,HDM.out,HD1.out,List.append_assoc];rfl)
   case measure=>simp [intOf];omega
theorem two_allocs (w:World) (o0 o1:Obj):((w.alloc o0).alloc o1).heap[w.heap.size]?=some o0/\((w.alloc o0).alloc o1).heap[w.heap.size+1]?=some o1/\Below w.heap.size w ((w.alloc o0).alloc o1):=by
 have s: ∀(x:World) (o:Obj),(x.alloc o).heap.size=x.heap.size+1:=fun x o=>by simp
 have n: ∀(x:World) (o:Obj),(x.alloc o).heap[x.heap.size]?=some o:=fun x o=>heap_alloc_new x o
 have k: ∀(x:World) (o:Obj) (j:Nat) (p:Obj),x.heap[j]?=some p->(x.alloc o).heap[j]?=some p:=fun x o j p h=>(Below.heap_alloc x o j (lt_of_row h)).trans h
 have e1:=n (w.alloc o0) o1;rw [s]at e1
 exact⟨k _ _ _ _ (n w o0),e1,((Below.refl _ _).alloc (Nat.le_refl _) _).alloc (by rw [s];omega) _⟩
abbrev SkipC (b:Nat) (w:World):Prop:=
 w.cell? ⟨b,0,none⟩=some (.int .i64 39)/\w.cell? ⟨b,1,none⟩=some (.int .i64 0)/\w.cell? ⟨b,2,none⟩=some (.int .i64 0)/\w.cell? ⟨b,3,none⟩=some (.slice none 0 0)/\w.cell? ⟨b,4,none⟩=some (.int .i64 1)/\w.cell? ⟨b,5,none⟩=some (.int .i64 0)/\w.cell? ⟨b,6,none⟩=some (.int .i64 0)/\w.cell? ⟨b,7,none⟩=some (.string ⟨#[]⟩)/\w.cell? ⟨b,8,none⟩=some (.slice none 0 0)/\w.cell? ⟨b,9,none⟩=some (.slice none 0 0)
theorem SkipC.block {b:Nat} {w w':World} (h:SkipC b w) (e:w'.heap[b]?=w.heap[b]?):SkipC b w':=by
 have k: ∀i,w'.cell? ⟨b,i,none⟩=w.cell? ⟨b,i,none⟩:=fun i=>World.cell?_of_block e
 unfold SkipC
 rw [k,k,k,k,k,k,k,k,k,k]
 exact h
abbrev KROW:Obj:=.cells #[.int .i64 36,.int .i64 0,.int .i64 0,.slice none 0 0,.int .i64 0,.int .i64 0,.int .i64 0,.string ⟨#[]⟩,.slice none 0 0,.slice none 0 0,.int .i64 37,.int .i64 0,.int .i64 0,.slice none 0 0,.int .i64 3,.int .i64 0,.int .i64 0,.string ⟨#[]⟩,.slice none 0 0,.slice none 0 0,.int .i64 39,.int .i64 0,.int .i64 0,.slice none 0 0,.int .i64 1,.int .i64 0,.int .i64 0,.string ⟨#[]⟩,.slice none 0 0,.slice none 0 0,.int .i64 40,.int .i64 0,.int .i64 0,.slice none 0 0,.int .i64 1,.int .i64 0,.int .i64 0,.string ⟨#[]⟩,.slice none 0 0,.slice none 0 0,.int .i64 36,.int .i64 0,.int .i64 0,.slice none 0 0,.int .i64 0,.int .i64 0,.int .i64 0,.string ⟨#[]⟩,.slice none 0 0,.slice none 0 0,.int .i64 37,.int .i64 0,.int .i64 0,.slice none 0 0,.int .i64 7,.int .i64 0,.int .i64 0,.string ⟨#[]⟩,.slice none 0 0,.slice none 0 0,.int .i64 39,.int .i64 0,.int .i64 0,.slice none 0 0,.int .i64 1,.int .i64 0,.int .i64 0,.string ⟨#[]⟩,.slice none 0 0,.slice none 0 0,.int .i64 40,.int .i64 0,.int .i64 0,.slice none 0 0,.int .i64 5,.int .i64 0,.int .i64 0,.string ⟨#[]⟩,.slice none 0 0,.slice none 0 0,.int .i64 2,.int .i64 1,.int .i64 0,.slice none 0 0,.int .i64 0,.int .i64 0,.int .i64 0,.string ⟨#[]⟩,.slice none 0 0,.slice none 0 0,.int .i64 26,.int .i64 0,.int .i64 0,.slice none 0 0,.int .i64 0,.int .i64 0,.int .i64 0,.string ⟨#[]⟩,.slice none 0 0,.slice none 0 0] 47
theorem crossed_any (w:World):Calls Tryz.prog 27 #[] w fun e w'=>UnitQ kl11 10 e w'/\Below w.heap.size w w':=by
 obtain⟨hZ,hS,hB⟩:=two_allocs w (.cells #[.string ⟨#[]⟩,.int .i64 0,.slice none 0 0,.slice none 0 0,.slice none 0 0,.slice none 0 0] 27) (.cells #[.int .i64 39,.int .i64 0,.int .i64 0,.slice none 0 0,.int .i64 1,.int .i64 0,.int .i64 0,.string ⟨#[]⟩,.slice none 0 0,.slice none 0 0] 47)
 have HZ:=Lib.hid hZ;have HS:=Lib.hid hS;have HB:=Lib.hid hB
 clear hZ hS hB
 go_in
 go_upto_region 2 with fail
 generalize(w.alloc _).alloc _=W at *
 generalize hH:w.heap.size=H at *
 have hd:Below W.heap.size W W.drew:=(Below.refl _ _).drew
 have hsk:SkipC (H+1) W:=ten_cells HS.out
 have HK:Hid (∀wx,Below W.heap.size W wx->SkipC (H+1) wx):=Lib.hid fun wx hx=>hsk.block (hx.block _ (lt_of_row HS.out))
 have K1:Hid (SkipC (H+1) W.drew):=Lib.hid (HK.out _ hd)
 have HC1:Hid (Calls Tryz.prog 24 #[.int .i64 0] W.drew fun e w5=>e= .returned (.agg #[.int .i64 1,.int .i64 0])/\Hid (SkipC (H+1) w5)/\Hid (SkipC (H+1) (w5.alloc KROW)) /\
   Hid (Calls Tryz.prog 25 #[.slice (some ⟨w5.heap.size,0,none⟩) 10 10] (w5.alloc KROW) fun e w6=> ∃f fc g cc,e= .returned (.agg #[.string strM,.int .i64 1,.slice none 0 0,.slice (some ⟨f,0,none⟩) 1 fc,.slice none 0 0,.slice (some ⟨g,0,none⟩) 10 cc])/\Hid (SkipC (H+1) w6) /\
    Hid (SkipC (H+1) ((((((w6.setCell ⟨H,0,none⟩ (.string strM)).setCell ⟨H,1,none⟩ (.int .i64 1)).setCell ⟨H,2,none⟩ (.slice none 0 0)).setCell ⟨H,3,none⟩ (.slice (some ⟨f,0,none⟩) 1 fc)).setCell ⟨H,4,none⟩ (.slice none 0 0)).setCell ⟨H,5,none⟩ (.slice (some ⟨g,0,none⟩) 10 cc))) /\
    Hid (w6.heap[H]?=some (.cells #[.string ⟨#[]⟩,.int .i64 0,.slice none 0 0,.slice none 0 0,.slice none 0 0,.slice none 0 0] 27 (0,0)))/\Hid (W.heap.size<=f/\W.heap.size<=g/\SlAt w6 4 FuncR (some ⟨f,0,none⟩) (exU kl11).funcs/\SlAt w6 10 (fun cs a=> ∀wx,InsR wx cs a) (some ⟨g,0,none⟩) kl11)/\Hid (Below W.heap.size W w6))):=Lib.hid (by
  refine(lawx_any 0 W.drew).mono ?_
  rintro e w5 ⟨rfl,h5⟩
  have h5':Below W.heap.size W w5:=hd.trans h5
  have h6':Below W.heap.size W (w5.alloc KROW):=h5'.alloc h5'.size _
  refine⟨rfl,Lib.hid (HK.out _ h5'),Lib.hid (HK.out _ h6'),Lib.hid ?_⟩
  refine(unit_new _ (fun cs a h=>insR_one cs a (h W)) kl11 10 rfl _ 10 _ (ks11R (heap_alloc_new _ _)) (by unfold kl11;simp) (by decide)).mono ?_
  rintro e w6 ⟨⟨f,fc,g,cc,rfl,hf,hg,s1,s2⟩,h7⟩
  have h7':Below W.heap.size W w6:=below_next h6' h7
  have hsk6:=HK.out _ h7'
  exact⟨f,fc,g,cc,rfl,Lib.hid hsk6,Lib.hid (hsk6.block (six_other (by omega) _ _ _ _ _ _)),Lib.hid ((h7'.block _ (lt_of_row HZ.out)).trans HZ.out),Lib.hid ⟨Nat.le_trans h6'.size hf,Nat.le_trans h6'.size hg,s1,s2⟩,Lib.hid h7'⟩)
 clear hd hsk HK
 go_region_held3 (fun w'=>w'.cell? ⟨H+1,0,none⟩=some (.int .i64 39)/\w'.cell? ⟨H+1,1,none⟩=some (.int .i64 0)/\w'.cell? ⟨H+1,2,none⟩=some (.int .i64 0)/\w'.cell? ⟨H+1,3,none⟩=some (.slice none 0 0)/\w'.cell? ⟨H+1,4,none⟩=some (.int .i64 1)/\w'.cell? ⟨H+1,5,none⟩=some (.int .i64 0)/\w'.cell? ⟨H+1,6,none⟩=some (.int .i64 0)/\w'.cell? ⟨H+1,7,none⟩=some (.string ⟨#[]⟩)/\w'.cell? ⟨H+1,8,none⟩=some (.slice none 0 0)/\w'.cell? ⟨H+1,9,none⟩=some (.slice none 0 0))
  (first|with_reducible exact K1.out|with_reducible exact K5.out|with_reducible exact K6.out|with_reducible exact K7.out|with_reducible exact K8.out)
  (first
   |(go_at_call 24;(with_reducible refine HC1.out.mono ?_);rintro e w5 ⟨rfl,K5,K6,HC2⟩)
   |(go_at_call 25;(with_reducible refine HC2.out.mono ?_);rintro e w6 ⟨f,fc,g,cc,rfl,K7,K8,HZ6,HUP,HB6⟩;have hz6:=HZ6.out;obtain⟨p0,p1,p2,p3,p4,p5⟩:=six_cells hz6;have z0:=frozen_of_row w6 H 0 _ _ hz6;have z1:=frozen_of_row w6 H 1 _ _ hz6;have z2:=frozen_of_row w6 H 2 _ _ hz6;have z3:=frozen_of_row w6 H 3 _ _ hz6;have z4:=frozen_of_row w6 H 4 _ _ hz6;have z5:=frozen_of_row w6 H 5 _ _ hz6;clear hz6))
 go_wp2_with fail
 have hz6:=HZ6.out
 obtain⟨hf,hg,s1,s2⟩:=HUP.out
 refine bodyPost_ret (results_cell_row rfl _ _ H _ _ _ _ rfl (six_set hz6 _ _ _ _ _ _) Tryz.underlying27 rfl (by kernel_rfl)) rfl ?_
 have hHW:H<W.heap.size:=lt_of_row HZ.out
 have hb6:Below H w w6:=HB.out.trans (HB6.out.mono (Nat.le_of_lt hHW))
 rw [hH]
 refine⟨⟨some ⟨f,0,none⟩,fc,some ⟨g,0,none⟩,cc,rfl,exU_up (s1.keepB (six_other (by omega) _ _ _ _ _ _) (by simp)) ?_ (by decide)⟩,six_low hb6 (Nat.le_refl _) _ _ _ _ _ _⟩
 rcases s2.keepB (six_other (b:=H) (by omega) (.string strM) (.int .i64 1) (.slice none 0 0) (.slice (some ⟨f,0,none⟩) 1 fc) (.slice none 0 0) (.slice (some ⟨g,0,none⟩) 10 cc)) (by simp)with a5|⟨b,off,b1,b2,b3⟩
 ·exact .inl a5
 ·exact .inr ⟨b,off,b1,b2,fun j hj=>by obtain⟨cs,c1,c2,c3⟩:=b3 j hj;exact⟨cs,c1,c2,c3 _⟩⟩
end Go.Proofs.YtepjanajflkakaaGreatDoor
