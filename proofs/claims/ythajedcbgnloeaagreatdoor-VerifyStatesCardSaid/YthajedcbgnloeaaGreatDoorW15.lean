import Derived.Test.YthajedcbgnloeaaGreatDoorW11
import Derived.Test.YthajedcbgnloeaaGreatDoorW13
namespace Go.Proofs.YthajedcbgnloeaaGreatDoor
open Go.RowKit
set_option linter.unusedVariables false
set_option linter.unusedSimpArgs false
set_option maxRecDepth 100000
set_option maxHeartbeats 0
open Go.RowKit Go.Shelf
attribute [local go_sem] Oper.semAt_some
theorem zlC (F:Fence) (n:Nat) (hF:F.fn 106) (hro:F.round=none) (b o i:Nat) (w:World):
  CallsIn F n Tryz.prog 106 #[.pointer (some ⟨b,o,none⟩),.int .i64 i] w fun e w'=>e= .returned (.func (.func 128) #[] #[.pointer (some ⟨w.heap.size,0,none⟩),.pointer (some ⟨w.heap.size+1,0,none⟩)])/\w'=(w.alloc (.cells #[.pointer (some ⟨b,o,none⟩)] 72)).alloc (.cells #[.int .i64 i] 3):=by
 refine callsIn_of_wp Tryz.func106 rfl hF ?_ hro;simp only [Tryz.ntmps106,List.size_toArray,zzq18,List.length_nil,Nat.reduceAdd,Nat.reduceSub,Array.replicate_succ,Array.replicate_zero,List.push_toArray,List.append_toArray,List.nil_append,List.cons_append]
 gi_wp2
 go_ret;exact⟨rfl,rfl⟩
theorem zhH (F:Fence) (n:Nat) (hF:F.fn 128) (hro:F.round=none) (hn:1<=n) (Bp Bi b o i:Nat) (x:RIns) (co:zzA) (cc:Nat) (w0 w:World) (hcl:x.cases.length<=1000) (hi:i<=1000000)
  (ht:TgAt w0 w Bp b o x co cc) (hbi:Boxed w Bi 3 (.int .i64 i)) (h0:w0.heap.size<=w.heap.size):
  SeqStopsK F n Tryz.prog 128 #[.pointer (some ⟨Bp,0,none⟩),.pointer (some ⟨Bi,0,none⟩)] (fun y:Int=>#[.int .i64 y]) (KpT w0.heap.size Bp) (fun ys=>ys=zbW i x) (fun _=>True) 1100 w:=fun l J Jx W hW hJ hJx hY hj0=>by
 have hk:KpT w0.heap.size Bp w W:=⟨hW.mono h0,fun v hv=>(hW.block Bp hv.lt).trans hv⟩;exact zkb F n hF hro hn l Bp Bi b o i x co cc w0 hcl hi J Jx (fun s A o' h=>hJ s A _ none h (World.grownBy_alloc A o' none) (fun r e=>by cases e)) hY W (ht.keep hk) (show Boxed W Bi 3 (.int .i64 i)from(hW.block Bi hbi.lt).trans hbi).cell hj0
theorem IntsAt.putObj {w:World} {ao:zzA} {l:List Int} {D:Nat} {ds:Option (List Deferred)} {o':Obj} (h:IntsAt w ao l) (hD:w.heap[D]?=some (.deferred ds)):IntsAt (w.putObj D o') ao l:=
 h.imp id fun⟨b,off,cs,fr,e,hb,hr⟩=>⟨b,off,cs,fr,e,(World.putObj_heap_other (fun h=>by subst h;rw [hD]at hb;cases hb)).trans hb,hr⟩
def inR (m:Nat) (l:List Int):List Int:=l.filter fun k=>decide (0<=k)&&decide (k<m)
theorem zpv (m:Nat) (l:List Int) {y:Int} (h0:0<=y) (h1:y<m):inR m (l++ [y])=inR m l++ [y]:=by unfold inR;simp [h0,h1]
theorem zjj (m:Nat) (l:List Int) {y:Int} (h: ¬(0<=y/\y<m)):inR m (l++ [y])=inR m l:=by
 unfold inR;rw [List.filter_append,List.filter_cons_of_neg (by simpa using h)];simp
theorem ze0 (d:Array Int): ∀(m:Nat) (k:Int),k∈Lib.compactUpTo d m↔ ∃j,j<m/\d[j]! =k
 |0,k=>by simp [Lib.compactUpTo]
 |m+1,k=>by
  rw [Lib.compactUpTo_succ,List.mem_append,ze0 d m k];constructor
  ·rintro(⟨j,h1,h2⟩|h)
   ·exact⟨j,by omega,h2⟩
   ·split at h
    ·exact⟨m,Nat.lt_succ_self m,(zzP.1 h).symm⟩
    ·cases h
  ·rintro⟨j,h1,h2⟩
   by_cases hj:j<m
   ·exact .inl ⟨j,hj,h2⟩
   ·obtain rfl:j=m:=by omega
    by_cases hk:Lib.keeps d j=true
    ·rw [if_pos hk];exact .inr (zzP.2 h2.symm)
    ·refine .inl ⟨j-1,?_,?_⟩
     ·have:j≠0:=fun e=>by subst e;exact hk (by simp [Lib.keeps])
      omega
     ·have:d[j]! =d[j-1]!:=Classical.byContradiction fun hn=>hk (Lib.keeps_pos hn)
      rw [<-this,h2]
theorem zjW (zs:List Int) (k:Int):k∈Lib.compact zs↔k∈zs:=by
 unfold Lib.compact;rw [ze0];constructor
 ·rintro⟨j,h1,h2⟩
  rw [<-h2];simp [h1]
 ·intro h
  obtain⟨j,hj,rfl⟩:=List.getElem_of_mem h;exact⟨j,hj,by simp [hj]⟩
theorem zhT (w:World):Sort.grow w #[]=w:=by cases w;simp [Sort.grow]
theorem zi9 {w:World} {g q:Nat} {cur:Array Value} {fr:Nat × Nat} {zs L:List Int} (hb:w.heap[g]?=some (.cells cur 3 fr)) (hl:L.length=zs.length) (h:zs.length<=cur.size) {r:List Int} (hr:r.length<=L.length) (he: ∀j (hj:j<r.length) (hj':j<L.length),L[j]=r[j]):
  IntsAt (Sort.putRow (Value.int .i64) (Sort.ahead w q) g 0 L.toArray) (some ⟨g,0,none⟩) r:=by
 have h1:=heap_sortedI (n:=q) (os:=#[]) L.toArray hb;rw [zhT]at h1;refine .inr ⟨g,0,_,fr,rfl,h1,fun j hj=>?_⟩;have h2:=take_putCellsI cur L (by omega);have h3:((Sort.putCells (Value.int .i64) 0 L.toArray cur).toList.take L.length)[j]?=(L.map (Value.int .i64))[j]?:=by rw [h2]
 rw [List.getElem?_take_of_lt (by omega),Array.getElem?_toList,List.getElem?_map,zzq3 (show j<L.length by omega)]at h3;rw [Nat.zero_add,h3];simp only [Option.map_some];rw [he j hj (by omega)]
theorem zny (cb cf m cap i:Nat) (x:RIns) (so co go:zzA) (sc cc gc:Nat) (w:World) (hi:IBox w cb (cf+i*10) x so co go sc cc gc) (him:i<m) (hm:m<=1000000) (hcl:x.cases.length<=1000):
  Calls Tryz.prog 66 #[.slice (some ⟨cb,cf,none⟩) m cap,.int .i64 i] w fun e w'=>(∃ks ao c,e= .returned (.slice ao ks.length c)/\IntsAt w' ao ks/\zhu m i x ks/\ks.length<=1100)/\Below w.heap.size w w':=by
 obtain⟨i0,hinf,hz0,hz1,hz2⟩:=info_parts zdo;have hI0:(0:Int)<=(i:Int):=by omega
 have hI1:(i:Int)<(m:Int):=by omega
 have t0:decide ((i:Int)<0)=false:=zzD (by omega);have t1:decide (m<=i)=false:=zzD (by omega);have HI:=zzH hi;clear hi;have bL0:=Boxed.new w 25 (.slice (some ⟨cb,cf,none⟩) m cap);have bO0:=Boxed.new (w.alloc (.cells #[.slice (some ⟨cb,cf,none⟩) m cap] 25)) 38 (.slice none 0 0);have bP0:=Boxed.new ((w.alloc (.cells #[.slice (some ⟨cb,cf,none⟩) m cap] 25)).alloc (.cells #[.slice none 0 0] 38)) 72 (.pointer (some ⟨cb,cf+i*10,none⟩));have bI0:=Boxed.new (((w.alloc (.cells #[.slice (some ⟨cb,cf,none⟩) m cap] 25)).alloc (.cells #[.slice none 0 0] 38)).alloc (.cells #[.pointer (some ⟨cb,cf+i*10,none⟩)] 72)) 3 (.int .i64 i)
 have hB0:Below w.heap.size w ((((w.alloc (.cells #[.slice (some ⟨cb,cf,none⟩) m cap] 25)).alloc (.cells #[.slice none 0 0] 38)).alloc (.cells #[.pointer (some ⟨cb,cf+i*10,none⟩)] 72)).alloc (.cells #[.int .i64 i] 3)):=
  ((((zzR _ w).alloc (zzL _) _).alloc (by simp) _).alloc (by simp;omega) _).alloc (by simp;omega) _
 have bL:=((bL0.alloc (.cells #[.slice none 0 0] 38)).alloc (.cells #[.pointer (some ⟨cb,cf+i*10,none⟩)] 72)).alloc (.cells #[.int .i64 i] 3);have bO:=(bO0.alloc (.cells #[.pointer (some ⟨cb,cf+i*10,none⟩)] 72)).alloc (.cells #[.int .i64 i] 3);have bP:=bP0.alloc (.cells #[.int .i64 i] 3);clear bL0 bO0 bP0;simp only [World.size_alloc]at bO bP bI0;refine zzK5 bL bO bP bI0 hB0 fun HBL HBO HBP HBI HB0=>?_;clear bL bO bP bI0 hB0;refine(callsIn_wide (n:=6)).1 ?_;refine callsIn_of_wp_marks Tryz.func66 rfl trivial ?_ (by rfl);simp only [Tryz.ntmps66,List.size_toArray,zzq18,List.length_nil,Nat.reduceAdd,Nat.reduceSub,Array.replicate_succ,Array.replicate_zero,List.push_toArray,List.append_toArray,List.nil_append,List.cons_append]
 gi_wp2_with (refine⟨trivial,?_⟩;gi_at_call 106;refine(zlC Fence.wide 5 trivial rfl _ _ _ _).mono ?_;rintro e w' ⟨rfl,rfl⟩)
 generalize(((w.alloc (.cells #[.slice (some ⟨cb,cf,none⟩) m cap] 25)).alloc (.cells #[.slice none 0 0] 38)).alloc (.cells #[.pointer (some ⟨cb,cf+i*10,none⟩)] 72)).alloc (.cells #[.int .i64 i] 3)=W0 at *;have hsz:w.heap.size<=W0.heap.size:=HB0.out.size;have hTg:TgAt w W0 (w.heap.size+1+1) cb (cf+i*10) x co cc:=⟨HB0.out,HBP.out,HI.out.lt,HI.out.c0,HI.out.c4,HI.out.c8,HI.out.cases⟩
 have hIO:OwnFrom W0.heap.size (fun(pre:List Int) W=>((∃v,Boxed W (w.heap.size+1) 38 v/\W.ownsRow w.heap.size 3 1 v (inR m pre).length ((inR m pre).map (Value.int .i64))/\True)/\Boxed W w.heap.size 25 (.slice (some ⟨cb,cf,none⟩) m cap))/\Below w.heap.size w W):=
  OwnFrom.and (OwnFrom.and (Own.from (holdsRow_own w.heap.size (w.heap.size+1) 38 3 1 (fun pre=>(inR m pre).length) (fun pre=>(inR m pre).map (Value.int .i64)) (fun _ _=>True)) _) (Own.from (boxed_own w.heap.size 25 (fun _=>.slice (some ⟨cb,cf,none⟩) m cap)) _)) (ownFrom_below (zzL _) hsz)
 have hKb: ∀(W:World) (l:Nat) (o o':Obj),W0.heap.size<=l->W.heap[l]?=some o->o.isCells=false->o.isWalk=false->KpT w.heap.size (w.heap.size+1+1) W (W.putObj l o'):=fun W l o o' hl h hc hk=>
  ⟨belowK_b (w:=W0) hsz W l o o' hl h hc hk,fun v hv=>(World.putObj_heap_other (fun e=>by
   rw [<-e]at h;rw [show W.heap[w.heap.size+1+1]?=_ from hv]at h
   injection h with h;rw [<-h]at hc;cases hc)).trans hv⟩
 have htl:(zbW i x).length<=1002:=by
  unfold zbW;rw [zzq12,zzq12];have h1:(if z7 x.op=true then [(i:Int)+1]else []).length<=1:=by split<;>simp
  have h2:(if toB x.op=true then [x.to]else []).length<=1:=by split<;>simp
  have h3:(if x.op=12 then x.cases.map RCase.to else []).length<=1000:=by split<;>simp;omega
  omega
 have HTL:=zzH htl;clear htl t0 t1
 refine wpIn_rangeFunc_ownG (w0:=W0) (F:=Fence.wide) rfl (by decide) (gf:=128) (lb:=#[.pointer (some ⟨w.heap.size+1+1,0,none⟩),.pointer (some ⟨w.heap.size+1+1+1,0,none⟩)]) rfl trivial (enters_of Tryz.func128 (by kernel_rfl) rfl)
  (zhH Fence.wide 5 trivial rfl (by decide) (w.heap.size+1+1) (w.heap.size+1+1+1) cb (cf+i*10) i x co cc w W0 hcl (by omega) hTg HBI.out hsz) (fun h k=>h.trans k) hKb (zzR _ _) (fun _=>rfl)
  (fun pre W=>((∃v,Boxed W (w.heap.size+1) 38 v/\W.ownsRow w.heap.size 3 1 v (inR m pre).length ((inR m pre).map (Value.int .i64))/\True)/\Boxed W w.heap.size 25 (.slice (some ⟨cb,cf,none⟩) m cap))/\Below w.heap.size w W)
  (fun _ _ _=>False) hIO (fun _ _ _ _ _ hs _ _=>hs)
  ⟨⟨⟨_,HBO.out,World.ownsRow_nil _ _ _ _,trivial⟩,HBL.out⟩,HB0.out⟩
  (fun y=>{tmps:=#[.slice (some ⟨cb,cf,none⟩) m cap,.int .i64 i,.pointer (some ⟨w.heap.size,0,none⟩),undef,.slice none 0 0,.pointer (some ⟨w.heap.size+1,0,none⟩),.int .i64 y,.int .i64 i,.bool false,.bool false,.int .i64 i,.slice (some ⟨cb,cf,none⟩) m cap,.int .i64 m,.bool false,.bool false,
   .slice (some ⟨cb,cf,none⟩) m cap,.int .i64 i,.pointer (some ⟨cb,cf+i*10,none⟩),.int .i64 i,.func (.func 128) #[] #[.pointer (some ⟨w.heap.size+1+1,0,none⟩),.pointer (some ⟨w.heap.size+1+1+1,0,none⟩)],.int .i64 y,
   undef,undef,undef,undef,undef,undef,undef,undef,undef,undef,undef,undef,undef,undef,undef,undef],defers:=[]}) ?assign ?body ?done ?stop
 case assign=>
  intro l y W K hK
  gi_wp2
  exact hK
 case body=>
  rintro l pre y W ⟨⟨⟨v,hv,hrow,-⟩,hL⟩,hB⟩ hlt;have hc:=hv.cell;have hcL:=hL.cell;have hpl:(inR m pre).length<=pre.length:=List.length_filter_le _ _;clear hIO hKb hTg;by_cases hy0:0<=y
  ·have u0:decide (0<=y)=true:=zzT hy0
   by_cases hy1:y<m
   ·have u1:decide (y<(m:Int))=true:=zzT hy1
    have hR:=zpv m pre hy0 hy1;have HR:=zzH hR;clear hR
    gi_wp2_with (gi_at_builtin;refine wpListIn_append_own _ rfl _ _ 38 rfl w.heap.size 3 i0 (.int .i64 0) 1 8 Tryz.underlying38 hinf hz0 hz1 hz2 rfl (by decide) _ _ _ rfl (hrow.alloc _) ⟨W.heap.size,0,none⟩ 1 1 [.int .i64 y] rfl rfl (cell_one_new _ _ _) (by simp [Value.oneCell']) (by unfold maxLen;omega) (by omega) (by have:=hB.size;simp;omega) ?_;intro v' w1 hown' hgrow _;obtain⟨g',cap',rfl⟩:=ownsRow_succ hown';obtain⟨hv1,hv2,hr2,hk2,hb2⟩:=hv.appended (by decide) hrow hB.size (Nat.le_succ _) hown' hgrow;have hc1:=hv1.cell;have hf1:=hv1.frozen)
    have hkeep: ∀(B:Nat) (T:TypeId) (u:Value),T≠3->B≠w.heap.size+1->Boxed W B T u->Boxed (w1.setCell ⟨w.heap.size+1,0,none⟩ (.slice (some ⟨g',0,none⟩) ((inR m pre).length+1) cap')) B T u:=fun B T u hT hne hu=>
     ((hu.alloc _).kept hgrow (hu.not_row hT hrow)).kept (grownBy_setCell' w1 (w.heap.size+1) _) (fun e=>hne (by cases e;rfl))
    exact⟨hk2.from _,⟨hb2,fun u hu=>hkeep _ _ u (by decide) (by omega) hu⟩,⟨⟨_,hv2,by rw [HR.out,zzq12,List.map_append];exact hr2,trivial⟩,hkeep _ _ _ (by decide) (by omega) hL⟩,hB.trans hb2⟩
   ·have u1:decide (y<(m:Int))=false:=zzD hy1
    have HR:=zzH (zjj m pre (fun h=>hy1 h.2));exact zz100
  ·have u0:decide (0<=y)=false:=zzD hy0
   have HR:=zzH (zjj m pre (fun h=>hy0 h.1));exact zz100
 case done=>
  rintro D ys W hD rfl ⟨⟨⟨v,hv,hrow,-⟩,hL⟩,hB⟩ hK
  have hsu: ∀zs:List Int,(∀k,k∈zs↔k∈inR m (zbW i x))->zhu m i x zs:=fun zs h k=>by
   rw [h k];unfold inR;rw [List.mem_filter,zzq4,zzq8,zzq8]
  have hsl:(inR m (zbW i x)).length<=1002:=zzY (List.length_filter_le _ _) HTL.out;have HSU:=zzH hsu;generalize inR m (zbW i x)=S at *;have hc:=hv.cell;have hnot:=hv.not_row (by decide) hrow;rcases hrow.2 with⟨rfl,h0⟩|⟨g,cp,cur,rfl,hbase,hgb,h1,h2,h3,h4⟩
  ·obtain rfl:S= []:=zzQ h0
   gi_wp2_with (first|(refine⟨trivial,?_⟩;gi_at_call 107;refine(callsIn_wide.2 (Tryz.slices_Sort_int_none _ _ _)).mono ?_;rintro e w1 ⟨rfl,rfl⟩)|(refine⟨trivial,?_⟩;gi_at_call 108;refine(callsIn_wide.2 (Tryz.slices_Compact_int_empty _ _ _)).mono ?_;rintro e w1 ⟨rfl,rfl⟩))
   refine⟨by simp,.inl ⟨_,_,rfl,run_takeDeferred hK,?_⟩⟩;exact⟨_,results_tmp rfl _ _ _,⟨[],_,_,rfl,.inl rfl,HSU.out [] (fun k=>Iff.rfl),by decide⟩,hB.trans (belowK_b (w:=w) (zzL _) _ D _ _ (by omega) hK rfl rfl)⟩
  ·have hgl:g<W.heap.size:=(Array.getElem?_eq_some_iff.1 hgb).1
   have hso:=Tryz.slices_Sort_int g 0 cp S W (holds_of_blockI hgb (by simpa using h4)) hgl (by omega);obtain⟨T,hT⟩: ∃T,T=S.mergeSort (fun x y=>decide (x<=y)):=⟨_,rfl⟩;rw [<-hT]at hso;have hTl:T.length=S.length:=by rw [hT,List.length_mergeSort]
   have hTm: ∀k,k∈T↔k∈S:=fun k=>by rw [hT];exact List.mem_mergeSort
   have hso2:Calls Tryz.prog 107 #[.slice (some ⟨g,0,none⟩) S.length cp] W fun e w1=>e= .returned (.tuple #[])/\ ∃cur1,w1.heap[g]?=some (.cells cur1 3 (0,0))/\cur1.toList.take T.length=T.map (Value.int .i64)/\cur1.size=cur.size/\W.grownBy w1 (some g):=
    hso.mono fun e w1 ⟨he,nn,os,hw⟩=>by
     subst hw;exact⟨he,_,heap_sortedI _ hgb,take_putCellsI cur T (by rw [hTl];omega),by simp [Sort.putCells],grownBy_sortedI _⟩
   refine zzK3 hso2 hTm hTl fun HSO HTm HTl=>?_;clear hso hso2 hT hTm hTl
   gi_wp2_with (refine⟨trivial,?_⟩;gi_at_call 107;refine(callsIn_wide.2 HSO.out).mono ?_;rintro e W1 ⟨rfl,cur1,hrow1,h41,hcs,hgr⟩;have hc1:=(hv.kept hgr (fun e=>hnot (by rw [e];rfl))).cell)
   have hK1:W1.heap[D]?=some (.deferred (some [])):=(hgr.block D (Array.getElem?_eq_some_iff.1 hK).1 (fun e=>by
    have:g=D:=by simpa using e.symm
    rw [this,hK]at hgb;cases hgb)).trans hK
   have hB1:RowKit.Below w.heap.size w W1:=hB.grown hgr hB.size (fun j hj=>by cases hj;exact hbase);have hco:=Tryz.slices_Compact_int g 0 cp T W1 (holds_of_blockI hrow1 h41) (by rw [HTl.out];omega) (by rw [HTl.out];exact h1);rw [HTl.out]at hco;have HCO:=zzH hco;have hgl1:=(Array.getElem?_eq_some_iff.1 hrow1).1;clear hco hgr hgl
   gi_wp2_with (refine⟨trivial,?_⟩;gi_at_call 108;refine(callsIn_wide.2 HCO.out).mono ?_;rintro e w2 ⟨rfl,q,rfl⟩)
   have hcl2:(Lib.compact T).length<=T.length:=Lib.compact_length_le T
   have hLl:(Lib.compact T++List.replicate (S.length-(Lib.compact T).length) 0).length=T.length:=by
    have:=HTl.out;rw [zzq12,List.length_replicate];omega
   have hints:=zi9 (q:=q) hrow1 hLl (by rw [hcs,HTl.out];omega) (r:=Lib.compact T) (by rw [hLl];exact hcl2) (fun j hj hj'=>by rw [List.getElem_append_left hj]);have hgr2:=grownBy_sortedI (n:=q) (os:=#[]) (w:=W1) (g:=g) (Lib.compact T++List.replicate (S.length-(Lib.compact T).length) 0).toArray;rw [zhT]at hgr2
   have hK2:(Sort.putRow (Value.int .i64) (Sort.ahead W1 q) g 0 (Lib.compact T++List.replicate (S.length-(Lib.compact T).length) 0).toArray).heap[D]?=some (.deferred (some [])):=(hgr2.block D (Array.getElem?_eq_some_iff.1 hK1).1 (fun e=>by
    have:g=D:=by simpa using e.symm
    rw [this,hK1]at hrow1;cases hrow1)).trans hK1
   have hB2:RowKit.Below w.heap.size w (Sort.putRow (Value.int .i64) (Sort.ahead W1 q) g 0 (Lib.compact T++List.replicate (S.length-(Lib.compact T).length) 0).toArray):=hB1.grown hgr2 hB1.size (fun j hj=>by cases hj;exact hbase);refine⟨by simp,.inl ⟨_,_,rfl,run_takeDeferred hK2,?_⟩⟩;have hbl:=belowK_b (w:=w) (zzL _) _ D _ (.deferred none) (by omega) hK2 rfl rfl;exact⟨_,results_tmp rfl _ _ _,⟨Lib.compact T,_,_,rfl,hints.putObj hK2,HSU.out _ (fun k=>(zjW T k).trans (HTm.out k)),by have:=HTl.out;omega⟩,hB2.trans hbl⟩
 case stop=>
  rintro D c pre W _ _ h _;exact h.elim
def zfL (s:VSt) (op i:Int):Bool:=zbu op&&(decide (0<s.tries.length)&&decide (zcn s.tries<=i))
theorem znC (s:VSt) (xo yo to':zzA) (xc yc tc:Nat) (op i:Int) (w:World) (hs:StLs w s xo xc yo yc to' tc) (hl:s.tries.length<=1000000):
  Calls Tryz.prog 43 #[.agg (zzs s xo xc yo yc to' tc),.int .i64 op,.int .i64 i] w
   fun e w'=>e= .returned (.bool (zfL s op i))/\Below w.heap.size w w':=by
 unfold zzs;have gA:=zzF w (.cells #[.int .i64 s.frame,.slice xo s.x.length xc,.slice yo s.y.length yc,.slice to' s.tries.length tc,.bool s.mt,.int .i64 s.recv,.int .i64 s.frm] 40);have hb:Below w.heap.size w (w.alloc (.cells (zzs s xo xc yo yc to' tc) 40)):=zzE _ _;refine zzK3 hs.t gA hb fun HT HA HB=>?_;have HR:Hid (zfL s op i=(zbu op&&(decide (0<s.tries.length)&&decide (zcn s.tries<=i)))):=zzH rfl;generalize zfL s op i=R at *;clear gA hb hs;go_in;go_upto_region 1 with fail;generalize w.alloc _=W at *;have HRA:=zzH (zgJ op W);generalize zbu op=b at *;go_wp2_with fail;refine HRA.out.mono ?_;rintro e w1 ⟨rfl,hb1⟩;obtain⟨d0,d1,d2,d3,d4,d5,d6⟩:=zN ((hb1.block _ (zd HA.out)).trans HA.out);have HB1:=zzH (ze HB.out hb1);clear hb1
 cases b with
 |false=>
  go_wp2;go_ret;exact⟨by rw [HR.out];rfl,HB1.out⟩
 |true=>
  by_cases h0:0<s.tries.length
  ·have u0:decide ((0:Int)<(s.tries.length:Int))=true:=zzT (by omega)
   obtain⟨k,hk⟩: ∃k,s.tries.length=k+1:=⟨s.tries.length-1,by omega⟩;obtain⟨b,off,rfl,-,e1⟩:=(HT.out.below HB1.out).cell (k:=k) (by omega);have hlast:zcn s.tries=s.tries.getD k 0:=by unfold zcn;rw [hk,Nat.add_sub_cancel]
   have HR2:Hid (R=decide (s.tries.getD k 0<=i)):=zzH (by rw [HR.out,decide_eq_true h0,hlast];simp);have hw1:IntKind.i64.wrap (((k+1:Nat):Int)-1)=(k:Int):=by rw [zzq2];omega
   rw [hk]at d3 u0;have hkl:k<=1000000:=by omega
   generalize s.tries.getD k 0=x at *;clear h0 hk hlast;go_wp2;go_ret;exact⟨by rw [HR2.out];rfl,HB1.out⟩
  ·have h00:s.tries.length=0:=by omega
   rw [h00]at d3;have HR2:Hid (R=false):=zzH (by rw [HR.out,decide_eq_false h0];rfl);clear h0;go_wp2;go_ret;exact⟨by rw [HR2.out];rfl,HB1.out⟩
theorem zjX (u:RUnit) (lo fo go co:zzA) (lc fc gc cc:Nat) (s:VSt) (xo yo to':zzA) (xc yc tc:Nat) (x:RIns) (so zo zs:zzA) (sc zc zsc:Nat) (w:World) (hup:UP w u lo fo go co) (hs:StLs w s xo xc yo yc to' tc) (ho:StOk s) (hl:zcU u)
  (hx:InsR w [.int .i64 x.op,.int .i64 x.dst.kind,.int .i64 x.dst.n,.slice so x.src.length sc,.int .i64 x.to,.int .i64 x.n,.int .i64 x.live,.string x.name,.slice zo x.cases.length zc,.slice zs x.segs.length zsc] x) (hsrc:x.op=1->0<x.src.length/\ArgOk u s (zB x)) (hsl:x.src.length<=1000):
  Calls Tryz.prog 117 #[.agg (zzu u lo lc fo fc go gc co cc),.agg (zzs s xo xc yo yc to' tc),.agg (zzi x so sc zo zc zs zsc)] w fun e w'=>e= .returned (.int .i64 (zcM u s x))/\Below w.heap.size w w':=by
 unfold zzi zzs zzu;obtain⟨gA,gB,gC,hb⟩:=zbR w (.cells #[.string u.mdl,.int .i64 u.vsn,.slice lo u.lits.length lc,.slice fo u.funcs.length fc,.slice go u.funs.length gc,.slice co u.code.length cc] 27) (.cells #[.int .i64 s.frame,.slice xo s.x.length xc,.slice yo s.y.length yc,.slice to' s.tries.length tc,.bool s.mt,.int .i64 s.recv,.int .i64 s.frm] 40) (.cells #[.int .i64 x.op,.int .i64 x.dst.kind,.int .i64 x.dst.n,.slice so x.src.length sc,.int .i64 x.to,.int .i64 x.n,.int .i64 x.live,.string x.name,.slice zo x.cases.length zc,.slice zs x.segs.length zsc] 47);refine zzK4 gA gB gC hb fun HA HB HC HBB=>?_;have HR:Hid (zcM u s x=if x.op=1 then zcj u s (zB x)else if x.op=2\/x.op=13/\x.name.data.toList= [123,125]then 3+(x.src.length:Int)else if x.op=3\/x.op=13/\x.name.data.toList= [124]then 2 else 1):=zzH rfl;generalize zcM u s x=R at *;refine zzK3 (hup.below hb) (hs.below hb) (hx.below hb) fun HUP HSL HXI=>?_;clear gA gB gC hb hup hs hx;go_in;go_upto_region 1 with fail;generalize((w.alloc _).alloc _).alloc _=W at *;obtain⟨i0,i1,i2,i3,i4,i5,i6,i7,i8,i9⟩:=zC HC.out;by_cases h1:x.op=1
 ·obtain⟨hl0,hao⟩:=hsrc h1
  obtain⟨⟨so',sc',co2,cc2,go2,gc2,he,hsl1,_,_⟩,_⟩:=HXI.out;have hso:so=so':=by simp at he;exact he.1.1
  subst hso;have hsl2:SlAt W 2 zeG so x.src:=hsl1;obtain⟨sb,off,rfl,hsb,hrw⟩:=hsl2.rows (fun e=>by rw [e]at hl0;simp at hl0);obtain⟨cs,e1,e2,e3⟩:=hrw 0 hl0
  have hsrc0:zB x=x.src[0]:=by
   exact zz82
  have q0:W.cell? ⟨sb,off,none⟩=some (.int .i64 (zB x).kind):=by have:=e2 0 (by omega);rw [e3.1,<-hsrc0]at this;simpa using this
  have q1:W.cell? ⟨sb,off+1,none⟩=some (.int .i64 (zB x).n):=by have:=e2 1 (by omega);rw [e3.1,<-hsrc0]at this;simpa using this
  have HR2:Hid (R=zcj u s (zB x)):=zzH (by rw [HR.out,if_pos h1]);have hd:Below W.heap.size W W.drew:=(zzR _ _).drew;have HOF:=zzH (zhD u lo fo go co lc fc gc cc s xo yo to' xc yc tc (zB x) W.drew (HUP.out.below hd) (HSL.out.below hd) ho hao hl);clear hrw e1 e2 e3 hsrc hao hsrc0 HR he hsl1 hsl2;generalize zcj u s (zB x)=kt at *;generalize zb2 s (zB x)=ke at *;generalize zB x=a at *
  have HS:Hid (∀w',Below W.heap.size W w'->(w'.cell? ⟨w.heap.size,0,none⟩=some (.string u.mdl)/\w'.cell? ⟨w.heap.size,1,none⟩=some (.int .i64 u.vsn)/\w'.cell? ⟨w.heap.size,2,none⟩=some (.slice lo u.lits.length lc)/\w'.cell? ⟨w.heap.size,3,none⟩=some (.slice fo u.funcs.length fc)/\w'.cell? ⟨w.heap.size,4,none⟩=some (.slice go u.funs.length gc)/\w'.cell? ⟨w.heap.size,5,none⟩=some (.slice co u.code.length cc)/\w'.cell? ⟨w.heap.size+1,0,none⟩=some (.int .i64 s.frame)/\w'.cell? ⟨w.heap.size+1,1,none⟩=some (.slice xo s.x.length xc)/\w'.cell? ⟨w.heap.size+1,2,none⟩=some (.slice yo s.y.length yc)/\w'.cell? ⟨w.heap.size+1,3,none⟩=some (.slice to' s.tries.length tc)/\w'.cell? ⟨w.heap.size+1,4,none⟩=some (.bool s.mt)/\w'.cell? ⟨w.heap.size+1,5,none⟩=some (.int .i64 s.recv)/\w'.cell? ⟨w.heap.size+1,6,none⟩=some (.int .i64 s.frm)/\w'.cell? ⟨w.heap.size+1+1,3,none⟩=some (.slice (some ⟨sb,off,none⟩) x.src.length sc)/\w'.cell? ⟨sb,off,none⟩=some (.int .i64 a.kind)/\w'.cell? ⟨sb,off+1,none⟩=some (.int .i64 a.n))):=zzH fun w' hw=>by
   have kk: ∀b i v,W.cell? ⟨b,i,none⟩=some v->w'.cell? ⟨b,i,none⟩=some v:=fun b i v h=>(hw.cell (p:=⟨b,i,none⟩) (World.block_lt_of_cell? W _ h)).trans h
   obtain⟨c0,c1,c2,c3,c4,c5⟩:=zV HA.out;obtain⟨d0,d1,d2,d3,d4,d5,d6⟩:=zN HB.out;exact⟨kk _ _ _ c0,kk _ _ _ c1,kk _ _ _ c2,kk _ _ _ c3,kk _ _ _ c4,kk _ _ _ c5,kk _ _ _ d0,kk _ _ _ d1,kk _ _ _ d2,kk _ _ _ d3,kk _ _ _ d4,kk _ _ _ d5,kk _ _ _ d6,kk _ _ _ i3,kk _ _ _ q0,kk _ _ _ q1⟩
  have K1:=zzH (HS.out _ hd);have HCL:=zzH (HOF.out.mono fun e w5 (h:e= .returned (.tuple #[.int .i64 kt,.int .i64 ke])/\Below W.drew.heap.size W.drew w5)=>(zzI h.1 (zzI (zzH (HS.out w5 (hd.trans h.2))) (zzH (ze HBB.out (hd.trans h.2)))):_/\Hid _/\Hid (Below w.heap.size w w5)));have u1:(x.op==1)=true:=zzl.2 h1;have hI1:(0:Int)<(x.src.length:Int):=by omega
  clear HS HOF hd q0 q1 i1 i2 i3 i4 i5 i6 i7 i8 i9 h1;go_upto_region 2 with fail;go_region_held3 (fun w'=>w'.cell? ⟨w.heap.size,0,none⟩=some (.string u.mdl)/\w'.cell? ⟨w.heap.size,1,none⟩=some (.int .i64 u.vsn)/\w'.cell? ⟨w.heap.size,2,none⟩=some (.slice lo u.lits.length lc)/\w'.cell? ⟨w.heap.size,3,none⟩=some (.slice fo u.funcs.length fc)/\w'.cell? ⟨w.heap.size,4,none⟩=some (.slice go u.funs.length gc)/\w'.cell? ⟨w.heap.size,5,none⟩=some (.slice co u.code.length cc)/\w'.cell? ⟨w.heap.size+1,0,none⟩=some (.int .i64 s.frame)/\w'.cell? ⟨w.heap.size+1,1,none⟩=some (.slice xo s.x.length xc)/\w'.cell? ⟨w.heap.size+1,2,none⟩=some (.slice yo s.y.length yc)/\w'.cell? ⟨w.heap.size+1,3,none⟩=some (.slice to' s.tries.length tc)/\w'.cell? ⟨w.heap.size+1,4,none⟩=some (.bool s.mt)/\w'.cell? ⟨w.heap.size+1,5,none⟩=some (.int .i64 s.recv)/\w'.cell? ⟨w.heap.size+1,6,none⟩=some (.int .i64 s.frm)/\w'.cell? ⟨w.heap.size+1+1,3,none⟩=some (.slice (some ⟨sb,off,none⟩) x.src.length sc)/\w'.cell? ⟨sb,off,none⟩=some (.int .i64 a.kind)/\w'.cell? ⟨sb,off+1,none⟩=some (.int .i64 a.n)) (first|with_reducible exact K1.out|with_reducible exact K5.out) (first|(go_at_call 85;(with_reducible refine HCL.out.mono ?_);rintro e w5 ⟨rfl,K5,HB5⟩))
  all_goals
   go_wp2;go_ret;exact⟨zY HR2.out.symm,HB5.out⟩
 ·have t1:(x.op==1)=false:=zzB.2 h1
  have hw:IntKind.i64.wrap (3+(x.src.length:Int))=3+(x.src.length:Int):=by rw [zzq2];omega
  clear hsrc hsl HA HB HC HUP HSL HXI ho hl i1 i2 i4 i5 i6 i8 i9;generalize x.src.length=sl at *;generalize x.op=op at *;generalize x.name=nm at *;by_cases h2:op=2
  ·have t2:(op==2)=true:=zzl.2 h2
   have HR2:Hid (R=3+(sl:Int)):=zzH (by rw [HR.out,if_neg h1,if_pos (.inl h2)]);clear HR h1 h2;exact zz116
  ·have t2:(op==2)=false:=zzB.2 h2
   by_cases h3:op=3
   ·have t3:(op==3)=true:=zzl.2 h3
    have t13:(op==13)=false:=by rw [zzq1];omega
    have HR2:Hid (R=2):=zzH (by rw [HR.out,if_neg h1,if_neg (by omega),if_pos (.inl h3)]);clear HR h1 h2 h3;exact zz116
   ·have t3:(op==3)=false:=zzB.2 h3
    by_cases h13:op=13
    ·have t13:(op==13)=true:=zzl.2 h13
     by_cases n1:nm.data.toList= [123,125]
     ·have m1:(nm.toList== [123,125])=true:=by rw [zcI,n1];rfl
      have HR2:Hid (R=3+(sl:Int)):=zzH (by rw [HR.out,if_neg h1,if_pos (.inr ⟨h13,n1⟩)]);clear HR h1 h2 h3 h13 n1;exact zz116
     ·have m1:(nm.toList== [123,125])=false:=by rw [zcI,zzq1];exact n1
      by_cases n2:nm.data.toList= [124]
      ·have m2:(nm.toList== [124])=true:=by rw [zcI,n2];rfl
       have HR2:Hid (R=2):=zzH (by rw [HR.out,if_neg h1,if_neg (fun g=>g.elim h2 fun g=>n1 g.2),if_pos (.inr ⟨h13,n2⟩)]);clear HR h1 h2 h3 h13 n1 n2;exact zz116
      ·have m2:(nm.toList== [124])=false:=by rw [zcI,zzq1];exact n2
       have HR2:Hid (R=1):=zzH (by rw [HR.out,if_neg h1,if_neg (fun g=>g.elim h2 fun g=>n1 g.2),if_neg (fun g=>g.elim h3 fun g=>n2 g.2)]);clear HR h1 h2 h3 h13 n1 n2;exact zz116
    ·have t13:(op==13)=false:=zzB.2 h13
     have HR2:Hid (R=1):=zzH (by rw [HR.out,if_neg h1,if_neg (fun g=>g.elim h2 fun g=>h13 g.1),if_neg (fun g=>g.elim h3 fun g=>h13 g.1)]);clear HR h1 h2 h3 h13;exact zz116
theorem znm (op:Int):zc3 op=true↔(zfA op=true\/op=37\/op=38\/op=39\/op=40):=by
 unfold zc3 zfA openL;rw [zzq8,zzq8];simp only [List.mem_cons,List.not_mem_nil,or_false];omega
def zfC (s:VSt) (op:Int):Bool:=decide ((s.recv≠0/\zc3 op=false)\/((op=37\/op=40)/\s.recv≠1)\/((op=38\/op=39)/\s.recv≠2))
theorem zhj (s:VSt) (x:RIns):zcp s x=if zfC s x.op=true then 184 else 0:=by
 unfold zfC zcp;simp only [zzq8];have hI:=znm x.op;by_cases h1:x.op=37\/x.op=40
 ·rw [if_pos h1]
  have ho:zc3 x.op=true:=hI.2 (by omega);by_cases h2:s.recv=1
  ·rw [if_neg (fun h=>h h2),if_neg]
   rintro(⟨_,h⟩|⟨_,h⟩|⟨h,_⟩)
   ·rw [ho]at h;cases h
   ·exact h h2
   ·omega
  ·rw [if_pos h2,if_pos (.inr (.inl ⟨h1,h2⟩))]
 ·rw [if_neg h1]
  by_cases h3:x.op=38\/x.op=39
  ·rw [if_pos h3]
   have ho:zc3 x.op=true:=hI.2 (by omega);by_cases h2:s.recv=2
   ·rw [if_neg (fun h=>h h2),if_neg]
    rintro(⟨_,h⟩|⟨h,_⟩|⟨_,h⟩)
    ·rw [ho]at h;cases h
    ·exact h1 h
    ·exact h h2
   ·rw [if_pos h2,if_pos (.inr (.inr ⟨h3,h2⟩))]
  ·rw [if_neg h3]
   by_cases h4:zfA x.op=true
   ·have ho:zc3 x.op=true:=hI.2 (.inl h4)
    rw [if_pos h4,if_neg];rintro(⟨_,h⟩|⟨h,_⟩|⟨h,_⟩)
    ·rw [ho]at h;cases h
    ·exact h1 h
    ·exact h3 h
   ·rw [if_neg h4]
    have ho:zc3 x.op=false:=by
     cases h:zc3 x.op with
     |false=>rfl
     |true=>rcases hI.1 h with h|h
            ·exact absurd h h4
            ·omega
    by_cases h2:s.recv=0
    ·rw [if_neg (fun h=>h h2),if_neg]
     rintro(⟨h,_⟩|⟨h,_⟩|⟨h,_⟩)
     ·exact h h2
     ·exact h1 h
     ·exact h3 h
    ·rw [if_pos h2,if_pos (.inl ⟨h2,ho⟩)]
theorem zjm (s:VSt) (x:RIns):zc4 s x=if decide ((x.op=24/\0<=s.frame)\/(x.op=25/\s.frame<0)\/(zbi x.op=true/\0<=s.frame))=true then 181 else 0:=by
 unfold zc4;simp only [zzq8];by_cases h:0<=s.frame/\(x.op=24\/zbi x.op=true)\/s.frame<0/\x.op=25
 ·rw [if_pos h,if_pos]
  rcases h with⟨a,b|b⟩|⟨a,b⟩
  ·exact .inl ⟨b,a⟩
  ·exact .inr (.inr ⟨b,a⟩)
  ·exact .inr (.inl ⟨b,a⟩)
 ·rw [if_neg h,if_neg]
  rintro(⟨a,b⟩|⟨a,b⟩|⟨a,b⟩)
  ·exact h (.inl ⟨b,.inl a⟩)
  ·exact h (.inr ⟨b,a⟩)
  ·exact h (.inl ⟨b,.inr a⟩)
theorem znY (i:Nat) (s:VSt) (x:RIns):zde i s x=if decide ((x.op=29/\s.tries.length=0)\/(zbi x.op=true/\0<s.tries.length))=true then 182 else if zfL s x.op i=true then 182 else 0:=by
 unfold zde zfL;simp only [zzq8 (p:=(x.op=29/\s.tries.length=0)\/(zbi x.op=true/\0<s.tries.length))];by_cases h0:s.tries.length=0
 ·rw [if_pos h0]
  have hl:decide (0<s.tries.length)=false:=zzD (by omega);by_cases h1:x.op=29
  ·rw [if_pos h1,if_pos (.inl ⟨h1,h0⟩)]
  ·rw [if_neg h1,if_neg (by rintro(⟨a,_⟩|⟨_,a⟩);exact h1 a;omega),hl]
   simp
 ·rw [if_neg h0]
  have hl:decide (0<s.tries.length)=true:=zzT (by omega);by_cases h1:zbi x.op=true
  ·rw [if_pos (.inl h1),if_pos (.inr ⟨h1,by omega⟩)]
  ·rw [if_neg (c:=(x.op=29/\s.tries.length=0)\/(zbi x.op=true/\0<s.tries.length)) (by rintro(⟨_,a⟩|⟨a,_⟩);exact h0 a;exact h1 a),hl]
   simp [h1]
theorem zfe: ∀(l:List Int) (e:Int),zbw (l++ [e])=if zbw l≠0 then zbw l else e
 |[],e=>by
  show(if e≠0 then e else 0)=if(0:Int)≠0 then 0 else e
  by_cases h:e=0<;>simp [h]
 |a::l,e=>by
  show(if a≠0 then a else zbw (l++ [e]))=if(if a≠0 then a else zbw l)≠0 then(if a≠0 then a else zbw l)else e
  rw [zfe l e];by_cases h:a=0
  ·simp [h]
  ·simp [h]
def zex (s:VSt) (x:RIns):Int:=if(x.op=29/\s.tries.length=0)\/(zbi x.op=true/\0<s.tries.length)then 182 else 0
def zeN (u:RUnit) (s:VSt) (x:RIns):Int:=zbw [zbF u s x,zcq u s x,zcp s x,zda s x,zc4 s x,zex s x]
theorem zfg (u:RUnit) (i:Nat) (s:VSt) (x:RIns):zb1 u i s x=if zeN u s x≠0 then zeN u s x else if zfL s x.op i=true then 182 else 0:=by
 have e1:zb1 u i s x=zbw ([zbF u s x,zcq u s x,zcp s x,zda s x,zc4 s x]++ [zde i s x]):=rfl;have e2:zeN u s x=zbw ([zbF u s x,zcq u s x,zcp s x,zda s x,zc4 s x]++ [zex s x]):=rfl;rw [e1,e2,zfe,zfe,znY];generalize zbw [zbF u s x,zcq u s x,zcp s x,zda s x,zc4 s x]=F;unfold zex;simp only [zzq8];by_cases hF:F=0
 ·by_cases h1:(x.op=29/\s.tries.length=0)\/(zbi x.op=true/\0<s.tries.length)
  ·simp only [hF,h1,if_true,ne_eq,not_true_eq_false,if_false];rfl
  ·simp only [hF,h1,if_false,ne_eq,not_true_eq_false]
 ·simp only [hF,ne_eq,not_false_eq_true,if_true]
def zeg (nl:Nat) (x:RIns) (a:Bool):Bool:=if a=true then zbh nl x.dst&& !(x.dst.kind==3)else zd2 x.dst
def zg0 (x:RIns) (r:RRow):Bool:=(r.c||x.n==0)&&((r.d||x.name.toList.isEmpty)&&((r.e||(x.cases.length:Int)==0)&&((r.f||(x.segs.length:Int)==0)&&(r.g||x.to==0))))
def zea (nl:Nat) (x:RIns) (r:RRow):Bool:=zeg nl x r.a&&((wi x.src.length r.lo r.hi&&((r.h||x.live==0)&&wi x.live 0 256))&&(x.src.all (zbh nl)&&zg0 x r))
theorem zpV (n:Nat):((n:Int)==0)=(n==0):=by rw [Bool.eq_iff_iff,beq_iff_eq,beq_iff_eq];omega
theorem zir (nl:Nat) (x:RIns) (h lo hi:Nat):zea nl x ⟨zx h 1,zx h 2,zx h 4,zx h 8,zx h 16,zx h 32,zx h 64,zx h 128,lo,hi⟩=zU nl x h lo hi:=by
 unfold zea zU zg0 zeg zeI zd2;simp only [zpV];have e:(x.dst.kind==3)=decide (x.dst.kind=3):=by rw [Bool.eq_iff_iff,beq_iff_eq,zzq8]
 rw [e]
 have e2:(if zx h 1=true then !decide (x.dst.kind=3)&&zbh nl x.dst else decide (x.dst.kind=0)&&decide (x.dst.n=0))=(if zx h 1=true then zbh nl x.dst&& !decide (x.dst.kind=3)else decide (x.dst.kind=0)&&decide (x.dst.n=0)):=by
  split
  ·exact Bool.and_comm _ _
  ·rfl
 rw [e2];generalize(if zx h 1=true then zbh nl x.dst&& !decide (x.dst.kind=3)else decide (x.dst.kind=0)&&decide (x.dst.n=0))=q0
 ac_rfl
theorem zjz (w:World) (u:RUnit) (lo fo go co:zzA) (lc fc gc cc:Nat) (x:RIns) (so co' go':zzA) (sc cc' gc':Nat) (cs:Array Value):UBox (((w.alloc (.cells #[.string u.mdl,.int .i64 u.vsn,.slice lo u.lits.length lc,.slice fo u.funcs.length fc,.slice go u.funs.length gc,.slice co u.code.length cc] 27)).alloc (.cells #[.int .i64 x.op,.int .i64 x.dst.kind,.int .i64 x.dst.n,.slice so x.src.length sc,.int .i64 x.to,.int .i64 x.n,.int .i64 x.live,.string x.name,.slice co' x.cases.length cc',.slice go' x.segs.length gc'] 47)).alloc (.cells cs 93)) w.heap.size u lo fo go co lc fc gc cc/\XBox (((w.alloc (.cells #[.string u.mdl,.int .i64 u.vsn,.slice lo u.lits.length lc,.slice fo u.funcs.length fc,.slice go u.funs.length gc,.slice co u.code.length cc] 27)).alloc (.cells #[.int .i64 x.op,.int .i64 x.dst.kind,.int .i64 x.dst.n,.slice so x.src.length sc,.int .i64 x.to,.int .i64 x.n,.int .i64 x.live,.string x.name,.slice co' x.cases.length cc',.slice go' x.segs.length gc'] 47)).alloc (.cells cs 93)) (w.heap.size+1) x so co' go' sc cc' gc' /\
  (((w.alloc (.cells #[.string u.mdl,.int .i64 u.vsn,.slice lo u.lits.length lc,.slice fo u.funcs.length fc,.slice go u.funs.length gc,.slice co u.code.length cc] 27)).alloc (.cells #[.int .i64 x.op,.int .i64 x.dst.kind,.int .i64 x.dst.n,.slice so x.src.length sc,.int .i64 x.to,.int .i64 x.n,.int .i64 x.live,.string x.name,.slice co' x.cases.length cc',.slice go' x.segs.length gc'] 47)).alloc (.cells cs 93)).heap[w.heap.size+1+1]?=some (.cells cs 93 (0,0))/\Below w.heap.size w (((w.alloc (.cells #[.string u.mdl,.int .i64 u.vsn,.slice lo u.lits.length lc,.slice fo u.funcs.length fc,.slice go u.funs.length gc,.slice co u.code.length cc] 27)).alloc (.cells #[.int .i64 x.op,.int .i64 x.dst.kind,.int .i64 x.dst.n,.slice so x.src.length sc,.int .i64 x.to,.int .i64 x.n,.int .i64 x.live,.string x.name,.slice co' x.cases.length cc',.slice go' x.segs.length gc'] 47)).alloc (.cells cs 93)):=by
 obtain⟨h1,h2,h3⟩:=zbA w u lo fo go co lc fc gc cc x so co' go' sc cc' gc';have s:((w.alloc (.cells (zzu u lo lc fo fc go gc co cc) 27)).alloc (.cells (zzi x so sc co' cc' go' gc') 47)).heap.size=w.heap.size+1+1:=by simp
 have hb:=(zzR ((w.alloc (.cells (zzu u lo lc fo fc go gc co cc) 27)).alloc (.cells (zzi x so sc co' cc' go' gc') 47)).heap.size ((w.alloc (.cells (zzu u lo lc fo fc go gc co cc) 27)).alloc (.cells (zzi x so sc co' cc' go' gc') 47))).alloc (zzL _) (.cells cs 93);refine⟨h1.below hb,h2.below hb,?_,h3.trans (hb.mono (by rw [s];omega))⟩;rw [<-s];exact zzF _ _
theorem zj6 (u:RUnit) (lo fo go co:zzA) (lc fc gc cc:Nat) (x:RIns) (so co' go':zzA) (sc cc' gc':Nat) (r:RRow) (w:World) (hl:u.lits.length<=9223372036854775807) (hsrc:SlAt w 2 zeG so x.src) (hdk:I64 x.dst.kind/\I64 x.dst.n) (r2:x.src.length<=9223372036854775807) (r3:x.cases.length<=9223372036854775807) (r4:x.segs.length<=9223372036854775807):
  Calls Tryz.prog 35 #[.agg (zzu u lo lc fo fc go gc co cc),.agg (zzi x so sc co' cc' go' gc'),.agg r.val] w fun e w'=>e= .returned (.bool (zea u.lits.length x r))/\Below w.heap.size w w':=by
 unfold zzi zzu;obtain⟨a,b,c,d,e,f,g,h,l1,l2⟩:=r;have HF:Hid (zea u.lits.length x ⟨a,b,c,d,e,f,g,h,l1,l2⟩=(zeg u.lits.length x a&&((wi x.src.length l1 l2&&((h||x.live==0)&&wi x.live 0 256))&&(x.src.all (zbh u.lits.length)&&zg0 x ⟨a,b,c,d,e,f,g,h,l1,l2⟩)))):=zzH rfl;have HR:Hid (zg0 x ⟨a,b,c,d,e,f,g,h,l1,l2⟩=((c||x.n==0)&&((d||x.name.toList.isEmpty)&&((e||(x.cases.length:Int)==0)&&((f||(x.segs.length:Int)==0)&&(g||x.to==0)))))):=zzH rfl;have HD1:Hid (zeg u.lits.length x true=(zbh u.lits.length x.dst&& !(x.dst.kind==3))):=zzH rfl;have HD2:Hid (zeg u.lits.length x false=zd2 x.dst):=zzH rfl;have HSR:=zzH hsrc;clear hsrc;generalize zea u.lits.length x ⟨a,b,c,d,e,f,g,h,l1,l2⟩=fb at *;generalize zg0 x ⟨a,b,c,d,e,f,g,h,l1,l2⟩=rb at *;go_in;go_upto_region 1 with fail;obtain⟨hU,hX,hR,hBW⟩:=zjz w u lo fo go co lc fc gc cc x so co' go' sc cc' gc' #[.bool a,.bool b,.bool c,.bool d,.bool e,.bool f,.bool g,.bool h,.int .i64 l1,.int .i64 l2];have HBW:=zzH hBW;clear hBW;simp only [RRow.val]at hR ⊢;generalize((w.alloc (.cells (zzu u lo lc fo fc go gc co cc) 27)).alloc (.cells (zzi x so sc co' cc' go' gc') 47)).alloc (.cells #[.bool a,.bool b,.bool c,.bool d,.bool e,.bool f,.bool g,.bool h,.int .i64 l1,.int .i64 l2] 93)=W at *;generalize hBz:w.heap.size=B at *;have HBZ:=zzH hBz;clear hBz;refine zzK3 hU hX hR fun HU HX HRB=>?_;clear hU hX hR;have hU1:=HU.out.below (zzR W.heap.size W);have hX1:=HX.out.below (zzR W.heap.size W);have hR1:=((zzR W.heap.size W).block _ (zd HRB.out)).trans HRB.out;have b0:=hU1.c0;have b1:=hU1.c1;have b2:=hU1.c2;have b3:=hU1.c3;have b4:=hU1.c4;have b5:=hU1.c5;have c0:=hX1.c0;have c1:=hX1.c1;have c2:=hX1.c2;have c3:=hX1.c3;have c4:=hX1.c4;have c5:=hX1.c5;have c6:=hX1.c6;have c7:=hX1.c7;have c8:=hX1.c8;have c9:=hX1.c9;obtain ⟨q0,q1,q2,q3,q4,q5,q6,q7,q8,q9⟩:=zzc10 hR1;have hlu:=hU1.lt;have hlx:=hX1.lt;have hlr:=zd hR1;clear hU1 hX1 hR1;go_cut [33] (fun sv wx=> ∃v:Bool,sv= .bool v/\Hid (zeg u.lits.length x a= !v)/\Hid (Below W.heap.size W wx))
 case first=>
  cases a with
  |true=>
   have hop:=zek u lo fo go co lc fc gc cc x.dst W hl hdk
   cases hq:zbh u.lits.length x.dst with
   |false=>
    have E:Hid (zeg u.lits.length x true= !true):=zzH (by rw [HD1.out,hq];rfl);rw [hq]at hop;exact zz185
   |true=>
    rw [hq]at hop
    cases hk:(x.dst.kind==3)with
    |true=>
     have E:Hid (zeg u.lits.length x true= !true):=zzH (by rw [HD1.out,hq,hk];rfl);exact zz185
    |false=>
     have E:Hid (zeg u.lits.length x true= !false):=zzH (by rw [HD1.out,hq,hk];rfl);clear hq;go_wp2_with fail;refine hop.mono ?_;rintro e9 w1 ⟨rfl,hb1⟩;clear b0 b1 b2 b3 b4 b5 c0 c1 c2 c3 c4 c5 c6 c7 c8 c9 q0 q1 q2 q3 q4 q5 q6 q7 q8 q9 hlu hlx hlr;have hU1:=HU.out.below hb1;have hX1:=HX.out.below hb1;have hR1:=(hb1.block _ (zd HRB.out)).trans HRB.out;have b0:=hU1.c0;have b1:=hU1.c1;have b2:=hU1.c2;have b3:=hU1.c3;have b4:=hU1.c4;have b5:=hU1.c5;have c0:=hX1.c0;have c1:=hX1.c1;have c2:=hX1.c2;have c3:=hX1.c3;have c4:=hX1.c4;have c5:=hX1.c5;have c6:=hX1.c6;have c7:=hX1.c7;have c8:=hX1.c8;have c9:=hX1.c9;obtain ⟨q0,q1,q2,q3,q4,q5,q6,q7,q8,q9⟩:=zzc10 hR1;have hlu:=hU1.lt;have hlx:=hX1.lt;have hlr:=zd hR1;clear hU1 hX1 hR1;go_wp2_with fail;go_meet
     case rel=>exact⟨false,rfl,E,zzH hb1⟩
  |false=>
   have hno:=zim x.dst W
   cases hq:zd2 x.dst with
   |false=>
    have E:Hid (zeg u.lits.length x false= !true):=zzH (by rw [HD2.out,hq];rfl);rw [hq]at hno;clear hq;go_wp2_with fail;refine hno.mono ?_;rintro e9 w1 ⟨rfl,hb1⟩;go_wp2_with fail;go_meet
    case rel=>exact⟨true,rfl,E,zzH hb1⟩
   |true=>
    have E:Hid (zeg u.lits.length x false= !false):=zzH (by rw [HD2.out,hq];rfl);rw [hq]at hno;clear hq;go_wp2_with fail;refine hno.mono ?_;rintro e9 w1 ⟨rfl,hb1⟩;go_wp2_with fail;go_meet
    case rel=>exact⟨false,rfl,E,zzH hb1⟩
 case rest=>
  obtain⟨v,rfl,HV,HB1⟩:=hcut;clear b0 b1 b2 b3 b4 b5 c0 c1 c2 c3 c4 c5 c6 c7 c8 c9 q0 q1 q2 q3 q4 q5 q6 q7 q8 q9 hlu hlx hlr;have hl1:=HB1.out.size;have HFIN:Hid (∀wx,Below W.heap.size W wx->Below B w wx):=zzH (fun wx hh=>HBW.out.trans (hh.mono (by have:=HBW.out.size;have:=HBZ.out;omega)))
  cases v with
  |true=>
   have E:Hid (fb=false):=zzH (by rw [HF.out,HV.out];rfl);go_wp2;go_ret;exact⟨zl E.out.symm,by rw [HBZ.out];exact HFIN.out _ HB1.out⟩
  |false=>
   have HF1:Hid (fb=((wi x.src.length l1 l2&&((h||x.live==0)&&wi x.live 0 256))&&(x.src.all (zbh u.lits.length)&&rb))):=zzH (by rw [HF.out,HV.out];rfl);clear HF HV;go_upto_region 3 with fail;have hU1:=HU.out.below HB1.out;have hX1:=HX.out.below HB1.out;have hR1:=(HB1.out.block _ (zd HRB.out)).trans HRB.out;have b0:=hU1.c0;have b1:=hU1.c1;have b2:=hU1.c2;have b3:=hU1.c3;have b4:=hU1.c4;have b5:=hU1.c5;have c0:=hX1.c0;have c1:=hX1.c1;have c2:=hX1.c2;have c3:=hX1.c3;have c4:=hX1.c4;have c5:=hX1.c5;have c6:=hX1.c6;have c7:=hX1.c7;have c8:=hX1.c8;have c9:=hX1.c9;obtain ⟨q0,q1,q2,q3,q4,q5,q6,q7,q8,q9⟩:=zzc10 hR1;have hlu:=hU1.lt;have hlx:=hX1.lt;have hlr:=zd hR1;clear hU1 hX1 hR1;go_cut [58] (fun sv wx=> ∃v:Bool,sv= .bool v/\Hid ((wi x.src.length l1 l2&&((h||x.live==0)&&wi x.live 0 256))= !v)/\wc=wx)
   case first=>
    have hw1:=fun wx=>zJ x.src.length l1 l2 wx
    have hw2:=fun wx=>zJ x.live 0 256 wx
    have HW1:=zzH hw1;have HW2:=zzH hw2;clear hw1 hw2
    cases hv1:wi x.src.length l1 l2 with
    |false=>
     rw [hv1]at HW1;go_wp2_with fail;refine(HW1.out _).mono ?_;rintro e9 w1 ⟨rfl,rfl⟩;go_wp2_with fail;go_meet
     case rel=>exact⟨true,rfl,zzH (by rw [hv1];rfl),rfl⟩
    |true=>
     rw [hv1]at HW1
     cases h with
     |true=>
      cases hv2:wi x.live 0 256 with
      |false=>
       rw [hv2]at HW2;go_wp2_with fail;refine(HW1.out _).mono ?_;rintro e9 w1 ⟨rfl,rfl⟩;go_wp2_with fail;refine(HW2.out _).mono ?_;rintro e9 w1 ⟨rfl,rfl⟩;go_wp2_with fail;go_meet
       case rel=>exact⟨true,rfl,zzH (by rw [hv1,hv2];rfl),rfl⟩
      |true=>
       rw [hv2]at HW2;go_wp2_with fail;refine(HW1.out _).mono ?_;rintro e9 w1 ⟨rfl,rfl⟩;go_wp2_with fail;refine(HW2.out _).mono ?_;rintro e9 w1 ⟨rfl,rfl⟩;go_wp2_with fail;go_meet
       case rel=>exact⟨false,rfl,zzH (by rw [hv1,hv2];rfl),rfl⟩
     |false=>
      cases t0:(x.live==0)with
      |false=>
       have t0' : (x.live != 0) = true := by rw [bne_iff_ne]; exact zzB.1 t0
       go_wp2_with fail;refine(HW1.out _).mono ?_;rintro e9 w1 ⟨rfl,rfl⟩;go_wp2_with fail;go_meet
       case rel=>exact⟨true,rfl,zzH (by rw [hv1,t0];rfl),rfl⟩
      |true=>
       have t0' : (x.live != 0) = false := by rw [bne_eq_false_iff_eq]; exact eq_of_beq t0
       cases hv2:wi x.live 0 256 with
       |false=>
        rw [hv2]at HW2;go_wp2_with fail;refine(HW1.out _).mono ?_;rintro e9 w1 ⟨rfl,rfl⟩;go_wp2_with fail;refine(HW2.out _).mono ?_;rintro e9 w1 ⟨rfl,rfl⟩;go_wp2_with fail;go_meet
        case rel=>exact⟨true,rfl,zzH (by rw [hv1,hv2,t0];rfl),rfl⟩
       |true=>
        rw [hv2]at HW2;go_wp2_with fail;refine(HW1.out _).mono ?_;rintro e9 w1 ⟨rfl,rfl⟩;go_wp2_with fail;refine(HW2.out _).mono ?_;rintro e9 w1 ⟨rfl,rfl⟩;go_wp2_with fail;go_meet
        case rel=>exact⟨false,rfl,zzH (by rw [hv1,hv2,t0];rfl),rfl⟩
   case rest=>
    obtain⟨v,rfl,HV,rfl⟩:=hcut
    cases v with
    |true=>
     have E:Hid (fb=false):=zzH (by rw [HF1.out,HV.out];rfl);go_wp2;go_ret;exact⟨zl E.out.symm,by rw [HBZ.out];exact HFIN.out _ HB1.out⟩
    |false=>
     have HF2:Hid (fb=(x.src.all (zbh u.lits.length)&&rb)):=zzH (by rw [HF1.out,HV.out];rfl);clear HF1 HV;go_wp2_with fail;clear b0 b1 b2 b3 b4 b5 c0 c1 c2 c3 c4 c5 c6 c7 c8 c9 q0 q1 q2 q3 q4 q5 q6 q7 q8 q9 hlu hlx hlr;go_loopw [7] (fun iv wr=> ∃k:Nat,k<=x.src.length/\iv= .int .i64 k/\Hid (∀j (hj:j<x.src.length),j<k->zbh u.lits.length x.src[j]=true)/\Hid (Below W.heap.size W wr)) (fun iv _=>x.src.length-(intOf iv).toNat)
     case atStart=>exact⟨0,zzZ _,rfl,zzH (fun j _ hj=>absurd hj (zzC _)),HB1⟩
     case round=>
      obtain⟨k,hk,rfl,HK,HBk⟩:=hrel;rename World=>wr
      have hU1:=HU.out.below HBk.out;have hX1:=HX.out.below HBk.out;have hR1:=(HBk.out.block _ (zd HRB.out)).trans HRB.out;have b0:=hU1.c0;have b1:=hU1.c1;have b2:=hU1.c2;have b3:=hU1.c3;have b4:=hU1.c4;have b5:=hU1.c5;have c0:=hX1.c0;have c1:=hX1.c1;have c2:=hX1.c2;have c3:=hX1.c3;have c4:=hX1.c4;have c5:=hX1.c5;have c6:=hX1.c6;have c7:=hX1.c7;have c8:=hX1.c8;have c9:=hX1.c9;obtain ⟨q0,q1,q2,q3,q4,q5,q6,q7,q8,q9⟩:=zzc10 hR1;have hlu:=hU1.lt;have hlx:=hX1.lt;have hlr:=zd hR1;clear hU1 hX1 hR1;by_cases hlt:k<x.src.length
      ·obtain⟨b9,off,hao,hb9,p0,p1,i0,i1⟩:=(HSR.out.mono (by rw [HBZ.out];exact HFIN.out _ HBk.out) fun _ _ hh=>hh).arg hlt
       subst hao
       have HE:Hid (zbh u.lits.length x.src[k]=false->fb=false):=zzH (fun hf=>by
        have:x.src.all (zbh u.lits.length)=false:=by
         rw [List.all_eq_false];exact⟨x.src[k],zzM hlt,by rw [hf];decide⟩
        rw [HF2.out,this];rfl)
       have HN:Hid (zbh u.lits.length x.src[k]=true-> ∀j (hj:j<x.src.length),j<k+1->zbh u.lits.length x.src[j]=true):=zzH (fun hne j hj hjk=>by
        rcases Nat.eq_or_lt_of_le (Nat.le_of_lt_succ hjk)with e9|e9
        ·subst e9;exact hne
        ·exact HK.out j hj e9)
       generalize x.src[k]=ar at *;have hop:=fun wx=>zek u lo fo go co lc fc gc cc ar wx hl ⟨i0,i1⟩
       have hdr:Below wr.heap.size wr wr.drew:=(zzR _ _).drew
       cases hq:zbh u.lits.length ar with
       |false=>
        have E:=zzH (HE.out hq);rw [hq]at hop;have HOP:=zzH hop;clear hq hop HE HN;go_wp2_with fail;have HS0:=zzH (show(fun w'=>w'.cell? ⟨B,0,none⟩=some (.string u.mdl)/\w'.cell? ⟨B,1,none⟩=some (.int .i64 u.vsn)/\w'.cell? ⟨B,2,none⟩=some (.slice lo u.lits.length lc)/\w'.cell? ⟨B,3,none⟩=some (.slice fo u.funcs.length fc)/\w'.cell? ⟨B,4,none⟩=some (.slice go u.funs.length gc)/\w'.cell? ⟨B,5,none⟩=some (.slice co u.code.length cc)/\w'.cell? ⟨B+1,3,none⟩=some (.slice (some ⟨b9,off,none⟩) x.src.length sc)/\w'.cell? ⟨b9,off+k*2,none⟩=some (.int .i64 ar.kind)/\w'.cell? ⟨b9,off+k*2+1,none⟩=some (.int .i64 ar.n)) wr.drew from⟨(hdr.cell (p:=⟨B,0,none⟩) hlu).trans b0,(hdr.cell (p:=⟨B,1,none⟩) hlu).trans b1,(hdr.cell (p:=⟨B,2,none⟩) hlu).trans b2,(hdr.cell (p:=⟨B,3,none⟩) hlu).trans b3,(hdr.cell (p:=⟨B,4,none⟩) hlu).trans b4,(hdr.cell (p:=⟨B,5,none⟩) hlu).trans b5,(hdr.cell (p:=⟨B+1,3,none⟩) hlx).trans c3,(hdr.cell (p:=⟨b9,off+k*2,none⟩) hb9).trans p0,(hdr.cell (p:=⟨b9,off+k*2+1,none⟩) hb9).trans p1⟩)
        first|go_region_held3 (fun w'=>w'.cell? ⟨B,0,none⟩=some (.string u.mdl)/\w'.cell? ⟨B,1,none⟩=some (.int .i64 u.vsn)/\w'.cell? ⟨B,2,none⟩=some (.slice lo u.lits.length lc)/\w'.cell? ⟨B,3,none⟩=some (.slice fo u.funcs.length fc)/\w'.cell? ⟨B,4,none⟩=some (.slice go u.funs.length gc)/\w'.cell? ⟨B,5,none⟩=some (.slice co u.code.length cc)/\w'.cell? ⟨B+1,3,none⟩=some (.slice (some ⟨b9,off,none⟩) x.src.length sc)/\w'.cell? ⟨b9,off+k*2,none⟩=some (.int .i64 ar.kind)/\w'.cell? ⟨b9,off+k*2+1,none⟩=some (.int .i64 ar.n)) (first|with_reducible exact HS0.out|with_reducible exact HS5.out) ((go_at_call 77;refine(HOP.out _).mono ?_;rintro e9 w5 ⟨rfl,hb5⟩;have HS5:=zzH (show(fun w'=>w'.cell? ⟨B,0,none⟩=some (.string u.mdl)/\w'.cell? ⟨B,1,none⟩=some (.int .i64 u.vsn)/\w'.cell? ⟨B,2,none⟩=some (.slice lo u.lits.length lc)/\w'.cell? ⟨B,3,none⟩=some (.slice fo u.funcs.length fc)/\w'.cell? ⟨B,4,none⟩=some (.slice go u.funs.length gc)/\w'.cell? ⟨B,5,none⟩=some (.slice co u.code.length cc)/\w'.cell? ⟨B+1,3,none⟩=some (.slice (some ⟨b9,off,none⟩) x.src.length sc)/\w'.cell? ⟨b9,off+k*2,none⟩=some (.int .i64 ar.kind)/\w'.cell? ⟨b9,off+k*2+1,none⟩=some (.int .i64 ar.n)) w5 from⟨((ze hdr hb5).cell (p:=⟨B,0,none⟩) hlu).trans b0,((ze hdr hb5).cell (p:=⟨B,1,none⟩) hlu).trans b1,((ze hdr hb5).cell (p:=⟨B,2,none⟩) hlu).trans b2,((ze hdr hb5).cell (p:=⟨B,3,none⟩) hlu).trans b3,((ze hdr hb5).cell (p:=⟨B,4,none⟩) hlu).trans b4,((ze hdr hb5).cell (p:=⟨B,5,none⟩) hlu).trans b5,((ze hdr hb5).cell (p:=⟨B+1,3,none⟩) hlx).trans c3,((ze hdr hb5).cell (p:=⟨b9,off+k*2,none⟩) hb9).trans p0,((ze hdr hb5).cell (p:=⟨b9,off+k*2+1,none⟩) hb9).trans p1⟩)))|fail
        go_wp2;go_ret;exact⟨zl E.out.symm,by rw [HBZ.out];exact HFIN.out _ (ze HBk.out (ze hdr hb5))⟩
       |true=>
        have HN2:=zzH (HN.out hq);rw [hq]at hop;have HOP:=zzH hop;clear hq hop HE HN;go_wp2_with fail;have HS0:=zzH (show(fun w'=>w'.cell? ⟨B,0,none⟩=some (.string u.mdl)/\w'.cell? ⟨B,1,none⟩=some (.int .i64 u.vsn)/\w'.cell? ⟨B,2,none⟩=some (.slice lo u.lits.length lc)/\w'.cell? ⟨B,3,none⟩=some (.slice fo u.funcs.length fc)/\w'.cell? ⟨B,4,none⟩=some (.slice go u.funs.length gc)/\w'.cell? ⟨B,5,none⟩=some (.slice co u.code.length cc)/\w'.cell? ⟨B+1,3,none⟩=some (.slice (some ⟨b9,off,none⟩) x.src.length sc)/\w'.cell? ⟨b9,off+k*2,none⟩=some (.int .i64 ar.kind)/\w'.cell? ⟨b9,off+k*2+1,none⟩=some (.int .i64 ar.n)) wr.drew from⟨(hdr.cell (p:=⟨B,0,none⟩) hlu).trans b0,(hdr.cell (p:=⟨B,1,none⟩) hlu).trans b1,(hdr.cell (p:=⟨B,2,none⟩) hlu).trans b2,(hdr.cell (p:=⟨B,3,none⟩) hlu).trans b3,(hdr.cell (p:=⟨B,4,none⟩) hlu).trans b4,(hdr.cell (p:=⟨B,5,none⟩) hlu).trans b5,(hdr.cell (p:=⟨B+1,3,none⟩) hlx).trans c3,(hdr.cell (p:=⟨b9,off+k*2,none⟩) hb9).trans p0,(hdr.cell (p:=⟨b9,off+k*2+1,none⟩) hb9).trans p1⟩)
        first|go_region_held3 (fun w'=>w'.cell? ⟨B,0,none⟩=some (.string u.mdl)/\w'.cell? ⟨B,1,none⟩=some (.int .i64 u.vsn)/\w'.cell? ⟨B,2,none⟩=some (.slice lo u.lits.length lc)/\w'.cell? ⟨B,3,none⟩=some (.slice fo u.funcs.length fc)/\w'.cell? ⟨B,4,none⟩=some (.slice go u.funs.length gc)/\w'.cell? ⟨B,5,none⟩=some (.slice co u.code.length cc)/\w'.cell? ⟨B+1,3,none⟩=some (.slice (some ⟨b9,off,none⟩) x.src.length sc)/\w'.cell? ⟨b9,off+k*2,none⟩=some (.int .i64 ar.kind)/\w'.cell? ⟨b9,off+k*2+1,none⟩=some (.int .i64 ar.n)) (first|with_reducible exact HS0.out|with_reducible exact HS5.out) ((go_at_call 77;refine(HOP.out _).mono ?_;rintro e9 w5 ⟨rfl,hb5⟩;have HS5:=zzH (show(fun w'=>w'.cell? ⟨B,0,none⟩=some (.string u.mdl)/\w'.cell? ⟨B,1,none⟩=some (.int .i64 u.vsn)/\w'.cell? ⟨B,2,none⟩=some (.slice lo u.lits.length lc)/\w'.cell? ⟨B,3,none⟩=some (.slice fo u.funcs.length fc)/\w'.cell? ⟨B,4,none⟩=some (.slice go u.funs.length gc)/\w'.cell? ⟨B,5,none⟩=some (.slice co u.code.length cc)/\w'.cell? ⟨B+1,3,none⟩=some (.slice (some ⟨b9,off,none⟩) x.src.length sc)/\w'.cell? ⟨b9,off+k*2,none⟩=some (.int .i64 ar.kind)/\w'.cell? ⟨b9,off+k*2+1,none⟩=some (.int .i64 ar.n)) w5 from⟨((ze hdr hb5).cell (p:=⟨B,0,none⟩) hlu).trans b0,((ze hdr hb5).cell (p:=⟨B,1,none⟩) hlu).trans b1,((ze hdr hb5).cell (p:=⟨B,2,none⟩) hlu).trans b2,((ze hdr hb5).cell (p:=⟨B,3,none⟩) hlu).trans b3,((ze hdr hb5).cell (p:=⟨B,4,none⟩) hlu).trans b4,((ze hdr hb5).cell (p:=⟨B,5,none⟩) hlu).trans b5,((ze hdr hb5).cell (p:=⟨B+1,3,none⟩) hlx).trans c3,((ze hdr hb5).cell (p:=⟨b9,off+k*2,none⟩) hb9).trans p0,((ze hdr hb5).cell (p:=⟨b9,off+k*2+1,none⟩) hb9).trans p1⟩)))|fail
        go_wp2_with fail;go_roundw
        case rel=>exact⟨k+1,by omega,by go_num,HN2,zzH (ze HBk.out (ze hdr hb5))⟩
        case measure=>simp [intOf];omega
      ·have HALL:Hid (x.src.all (zbh u.lits.length)=true):=zzH (by
        rw [List.all_eq_true];intro ar ha;obtain⟨j,hj,rfl⟩:=List.getElem_of_mem ha;exact HK.out j hj (by omega))
       have HF3:Hid (fb=((c||x.n==0)&&((d||x.name.toList.isEmpty)&&((e||(x.cases.length:Int)==0)&&((f||(x.segs.length:Int)==0)&&(g||x.to==0)))))):=zzH (by rw [HF2.out,HALL.out,HR.out];rfl);clear HALL HF2 HR
       cases c with
       |true=>
        cases d with
        |true=>
         cases e with
         |true=>
          cases f with
          |true=>
           cases g with
           |true=>
            have E:Hid (fb=true):=zzH (by rw [HF3.out];simp only [zzX1]);exact zz186
           |false=>
            cases z4:(x.to==0)with
            |false=>
             have E:Hid (fb=false):=zzH (by rw [HF3.out,z4];simp only [zzX2]);exact zz186
            |true=>
             have E:Hid (fb=true):=zzH (by rw [HF3.out,z4];simp only [zzX1]);exact zz186
          |false=>
           cases z3:((x.segs.length:Int)==0)with
           |false=>
            have E:Hid (fb=false):=zzH (by rw [HF3.out,z3];simp only [zzX2]);exact zz186
           |true=>
            cases g with
            |true=>
             have E:Hid (fb=true):=zzH (by rw [HF3.out,z3];simp only [zzX1]);exact zz186
            |false=>
             cases z4:(x.to==0)with
             |false=>
              have E:Hid (fb=false):=zzH (by rw [HF3.out,z3,z4];simp only [zzX2]);exact zz186
             |true=>
              have E:Hid (fb=true):=zzH (by rw [HF3.out,z3,z4];simp only [zzX1]);exact zz186
         |false=>
          cases z2:((x.cases.length:Int)==0)with
          |false=>
           have E:Hid (fb=false):=zzH (by rw [HF3.out,z2];simp only [zzX2]);exact zz186
          |true=>
           cases f with
           |true=>
            cases g with
            |true=>
             have E:Hid (fb=true):=zzH (by rw [HF3.out,z2];simp only [zzX1]);exact zz186
            |false=>
             cases z4:(x.to==0)with
             |false=>
              have E:Hid (fb=false):=zzH (by rw [HF3.out,z2,z4];simp only [zzX2]);exact zz186
             |true=>
              have E:Hid (fb=true):=zzH (by rw [HF3.out,z2,z4];simp only [zzX1]);exact zz186
           |false=>
            cases z3:((x.segs.length:Int)==0)with
            |false=>
             have E:Hid (fb=false):=zzH (by rw [HF3.out,z2,z3];simp only [zzX2]);exact zz186
            |true=>
             cases g with
             |true=>
              have E:Hid (fb=true):=zzH (by rw [HF3.out,z2,z3];simp only [zzX1]);exact zz186
             |false=>
              cases z4:(x.to==0)with
              |false=>
               have E:Hid (fb=false):=zzH (by rw [HF3.out,z2,z3,z4];simp only [zzX2]);exact zz186
              |true=>
               have E:Hid (fb=true):=zzH (by rw [HF3.out,z2,z3,z4];simp only [zzX1]);exact zz186
        |false=>
         cases z1:x.name.toList.isEmpty with
         |false=>
          have z1':(x.name.toList== [])=false:=by rw [<-z1];cases x.name.toList<;>rfl
          have E:Hid (fb=false):=zzH (by rw [HF3.out,z1];simp only [zzX2]);exact zz186
         |true=>
          have z1':(x.name.toList== [])=true:=by rw [<-z1];cases x.name.toList<;>rfl
          cases e with
          |true=>
           cases f with
           |true=>
            cases g with
            |true=>
             have E:Hid (fb=true):=zzH (by rw [HF3.out,z1];simp only [zzX1]);exact zz186
            |false=>
             cases z4:(x.to==0)with
             |false=>
              have E:Hid (fb=false):=zzH (by rw [HF3.out,z1,z4];simp only [zzX2]);exact zz186
             |true=>
              have E:Hid (fb=true):=zzH (by rw [HF3.out,z1,z4];simp only [zzX1]);exact zz186
           |false=>
            cases z3:((x.segs.length:Int)==0)with
            |false=>
             have E:Hid (fb=false):=zzH (by rw [HF3.out,z1,z3];simp only [zzX2]);exact zz186
            |true=>
             cases g with
             |true=>
              have E:Hid (fb=true):=zzH (by rw [HF3.out,z1,z3];simp only [zzX1]);exact zz186
             |false=>
              cases z4:(x.to==0)with
              |false=>
               have E:Hid (fb=false):=zzH (by rw [HF3.out,z1,z3,z4];simp only [zzX2]);exact zz186
              |true=>
               have E:Hid (fb=true):=zzH (by rw [HF3.out,z1,z3,z4];simp only [zzX1]);exact zz186
          |false=>
           cases z2:((x.cases.length:Int)==0)with
           |false=>
            have E:Hid (fb=false):=zzH (by rw [HF3.out,z1,z2];simp only [zzX2]);exact zz186
           |true=>
            cases f with
            |true=>
             cases g with
             |true=>
              have E:Hid (fb=true):=zzH (by rw [HF3.out,z1,z2];simp only [zzX1]);exact zz186
             |false=>
              cases z4:(x.to==0)with
              |false=>
               have E:Hid (fb=false):=zzH (by rw [HF3.out,z1,z2,z4];simp only [zzX2]);exact zz186
              |true=>
               have E:Hid (fb=true):=zzH (by rw [HF3.out,z1,z2,z4];simp only [zzX1]);exact zz186
            |false=>
             cases z3:((x.segs.length:Int)==0)with
             |false=>
              have E:Hid (fb=false):=zzH (by rw [HF3.out,z1,z2,z3];simp only [zzX2]);exact zz186
             |true=>
              cases g with
              |true=>
               have E:Hid (fb=true):=zzH (by rw [HF3.out,z1,z2,z3];simp only [zzX1]);exact zz186
              |false=>
               cases z4:(x.to==0)with
               |false=>
                have E:Hid (fb=false):=zzH (by rw [HF3.out,z1,z2,z3,z4];simp only [zzX2]);exact zz186
               |true=>
                have E:Hid (fb=true):=zzH (by rw [HF3.out,z1,z2,z3,z4];simp only [zzX1]);exact zz186
       |false=>
        cases z0:(x.n==0)with
        |false=>
         have E:Hid (fb=false):=zzH (by rw [HF3.out,z0];simp only [zzX2]);exact zz186
        |true=>
         cases d with
         |true=>
          cases e with
          |true=>
           cases f with
           |true=>
            cases g with
            |true=>
             have E:Hid (fb=true):=zzH (by rw [HF3.out,z0];simp only [zzX1]);exact zz186
            |false=>
             cases z4:(x.to==0)with
             |false=>
              have E:Hid (fb=false):=zzH (by rw [HF3.out,z0,z4];simp only [zzX2]);exact zz186
             |true=>
              have E:Hid (fb=true):=zzH (by rw [HF3.out,z0,z4];simp only [zzX1]);exact zz186
           |false=>
            cases z3:((x.segs.length:Int)==0)with
            |false=>
             have E:Hid (fb=false):=zzH (by rw [HF3.out,z0,z3];simp only [zzX2]);exact zz186
            |true=>
             cases g with
             |true=>
              have E:Hid (fb=true):=zzH (by rw [HF3.out,z0,z3];simp only [zzX1]);exact zz186
             |false=>
              cases z4:(x.to==0)with
              |false=>
               have E:Hid (fb=false):=zzH (by rw [HF3.out,z0,z3,z4];simp only [zzX2]);exact zz186
              |true=>
               have E:Hid (fb=true):=zzH (by rw [HF3.out,z0,z3,z4];simp only [zzX1]);exact zz186
          |false=>
           cases z2:((x.cases.length:Int)==0)with
           |false=>
            have E:Hid (fb=false):=zzH (by rw [HF3.out,z0,z2];simp only [zzX2]);exact zz186
           |true=>
            cases f with
            |true=>
             cases g with
             |true=>
              have E:Hid (fb=true):=zzH (by rw [HF3.out,z0,z2];simp only [zzX1]);exact zz186
             |false=>
              cases z4:(x.to==0)with
              |false=>
               have E:Hid (fb=false):=zzH (by rw [HF3.out,z0,z2,z4];simp only [zzX2]);exact zz186
              |true=>
               have E:Hid (fb=true):=zzH (by rw [HF3.out,z0,z2,z4];simp only [zzX1]);exact zz186
            |false=>
             cases z3:((x.segs.length:Int)==0)with
             |false=>
              have E:Hid (fb=false):=zzH (by rw [HF3.out,z0,z2,z3];simp only [zzX2]);exact zz186
             |true=>
              cases g with
              |true=>
               have E:Hid (fb=true):=zzH (by rw [HF3.out,z0,z2,z3];simp only [zzX1]);exact zz186
              |false=>
               cases z4:(x.to==0)with
               |false=>
                have E:Hid (fb=false):=zzH (by rw [HF3.out,z0,z2,z3,z4];simp only [zzX2]);exact zz186
               |true=>
                have E:Hid (fb=true):=zzH (by rw [HF3.out,z0,z2,z3,z4];simp only [zzX1]);exact zz186
         |false=>
          cases z1:x.name.toList.isEmpty with
          |false=>
           have z1':(x.name.toList== [])=false:=by rw [<-z1];cases x.name.toList<;>rfl
           have E:Hid (fb=false):=zzH (by rw [HF3.out,z0,z1];simp only [zzX2]);exact zz186
          |true=>
           have z1':(x.name.toList== [])=true:=by rw [<-z1];cases x.name.toList<;>rfl
           cases e with
           |true=>
            cases f with
            |true=>
             cases g with
             |true=>
              have E:Hid (fb=true):=zzH (by rw [HF3.out,z0,z1];simp only [zzX1]);exact zz186
             |false=>
              cases z4:(x.to==0)with
              |false=>
               have E:Hid (fb=false):=zzH (by rw [HF3.out,z0,z1,z4];simp only [zzX2]);exact zz186
              |true=>
               have E:Hid (fb=true):=zzH (by rw [HF3.out,z0,z1,z4];simp only [zzX1]);exact zz186
            |false=>
             cases z3:((x.segs.length:Int)==0)with
             |false=>
              have E:Hid (fb=false):=zzH (by rw [HF3.out,z0,z1,z3];simp only [zzX2]);exact zz186
             |true=>
              cases g with
              |true=>
               have E:Hid (fb=true):=zzH (by rw [HF3.out,z0,z1,z3];simp only [zzX1]);exact zz186
              |false=>
               cases z4:(x.to==0)with
               |false=>
                have E:Hid (fb=false):=zzH (by rw [HF3.out,z0,z1,z3,z4];simp only [zzX2]);exact zz186
               |true=>
                have E:Hid (fb=true):=zzH (by rw [HF3.out,z0,z1,z3,z4];simp only [zzX1]);exact zz186
           |false=>
            cases z2:((x.cases.length:Int)==0)with
            |false=>
             have E:Hid (fb=false):=zzH (by rw [HF3.out,z0,z1,z2];simp only [zzX2]);exact zz186
            |true=>
             cases f with
             |true=>
              cases g with
              |true=>
               have E:Hid (fb=true):=zzH (by rw [HF3.out,z0,z1,z2];simp only [zzX1]);exact zz186
              |false=>
               cases z4:(x.to==0)with
               |false=>
                have E:Hid (fb=false):=zzH (by rw [HF3.out,z0,z1,z2,z4];simp only [zzX2]);exact zz186
               |true=>
                have E:Hid (fb=true):=zzH (by rw [HF3.out,z0,z1,z2,z4];simp only [zzX1]);exact zz186
             |false=>
              cases z3:((x.segs.length:Int)==0)with
              |false=>
               have E:Hid (fb=false):=zzH (by rw [HF3.out,z0,z1,z2,z3];simp only [zzX2]);exact zz186
              |true=>
               cases g with
               |true=>
                have E:Hid (fb=true):=zzH (by rw [HF3.out,z0,z1,z2,z3];simp only [zzX1]);exact zz186
               |false=>
                cases z4:(x.to==0)with
                |false=>
                 have E:Hid (fb=false):=zzH (by rw [HF3.out,z0,z1,z2,z3,z4];simp only [zzX2]);exact zz186
                |true=>
                 have E:Hid (fb=true):=zzH (by rw [HF3.out,z0,z1,z2,z3,z4];simp only [zzX1]);exact zz186
theorem zfK (w:World) (x:RIns) (so co' go':zzA) (sc cc' gc':Nat):XBox (w.alloc (.cells #[.int .i64 x.op,.int .i64 x.dst.kind,.int .i64 x.dst.n,.slice so x.src.length sc,.int .i64 x.to,.int .i64 x.n,.int .i64 x.live,.string x.name,.slice co' x.cases.length cc',.slice go' x.segs.length gc'] 47)) w.heap.size x so co' go' sc cc' gc':=zzF _ _
theorem zkn {l k : List UInt8} {b : Bool} (h : (l == k) = b) : (l != k) = !b := by rw [<- h]; rfl
theorem zmM (x:RIns) (so co' go':zzA) (sc cc' gc':Nat) (w:World) (hs:x.name.size<=maxLen) (r2:x.src.length<=9223372036854775807) (r1:I64 x.n) (hop:x.op=13):
  Calls Tryz.prog 37 #[.agg (zzi x so sc co' cc' go' gc')] w fun e w'=>e= .returned (.bool (zbp x))/\Below w.heap.size w w':=by
 unfold zzi;have E0:Hid (zbp x=(((x.name.toList== [123,125])||((x.name.toList== [124])&&((x.src.length:Int)==2)))||((!(x.name.toList== [43,43])&&zQ x.name x.src.length)||(zbx x.name x.src.length==1)))):=zzH (by unfold zbp;rw [if_pos hop]);have HOP:=zzH hop;clear hop;go_in;go_upto_region 1 with fail;have hX:=zfK w x so co' go' sc cc' gc';have hBX:Below w.heap.size w (w.alloc (.cells (zzi x so sc co' cc' go' gc') 47)):=zzE _ _;generalize w.alloc (.cells (zzi x so sc co' cc' go' gc') 47)=W at *;have hcl:=zel x.name x.src.length W hs;rw [<-zdC]at hcl;have HX:=zzH hX;have HB:=zzH hBX;have c0:=hX.c0;have c3:=hX.c3;have c5:=hX.c5;have c7:=hX.c7;have hlx:=hX.lt;clear hX hBX;rw [HOP.out]at c0;generalize hBz:w.heap.size=B at *;have HBZ:=zzH hBz;clear hBz;go_wp2_with fail;refine hcl.mono ?_;rintro e w1 ⟨rfl,hb1⟩;have hX1:=HX.out.below hb1;have HB1:Hid (Below B w w1):=zzH (HB.out.trans (hb1.mono (by have:=HB.out.size;have:=HBZ.out;omega)));have hbb:=hb1.size;clear hb1 c0 c3 c5 c7 hcl;have c0:=hX1.c0;have c3:=hX1.c3;have c5:=hX1.c5;have c7:=hX1.c7;have hlx1:=hX1.lt;have HX1:=zzH hX1;clear hX1;rw [HOP.out]at c0;have hop2:=ze7 x.name x.src.length w1
 cases q1:(zbx x.name x.src.length==1)with
 |true=>
  exact zz190
 |false=>
  simp only [q1]at E0
  cases ob:zQ x.name x.src.length with
  |true=>
   simp only [ob]at E0
   cases t0:(x.name.toList== [43,43])with
   |true=>
    exact zz189
   |false=>
    simp only [t0]at E0;have t0':=zkn t0
    try simp only [zzX3]at E0
    go_wp2_with fail;refine hop2.mono ?_;rintro e w2 ⟨rfl,rfl⟩;go_wp2;go_ret;exact⟨zl E0.out.symm,by rw [HBZ.out];exact HB1.out⟩
  |false=>
   simp only [ob]at E0
   cases t0:(x.name.toList== [43,43])with
   |true=>
    exact zz189
   |false=>
    exact zz189
theorem zmL (x:RIns) (so co' go':zzA) (sc cc' gc':Nat) (w:World) (hs:x.name.size<=maxLen) (r2:x.src.length<=9223372036854775807) (r1:I64 x.n) (hop:x.op=14):
  Calls Tryz.prog 37 #[.agg (zzi x so sc co' cc' go' gc')] w fun e w'=>e= .returned (.bool (zbp x))/\Below w.heap.size w w':=by
 unfold zzi;have E0:Hid (zbp x=((zQ x.name x.src.length||(zbx x.name x.src.length==1))||(zbx x.name x.src.length==2))):=zzH (by unfold zbp;rw [if_neg (by omega),if_pos hop]);have HOP:=zzH hop;clear hop;go_in;go_upto_region 1 with fail;have hX:=zfK w x so co' go' sc cc' gc';have hBX:Below w.heap.size w (w.alloc (.cells (zzi x so sc co' cc' go' gc') 47)):=zzE _ _;generalize w.alloc (.cells (zzi x so sc co' cc' go' gc') 47)=W at *;have hcl:=zel x.name x.src.length W hs;rw [<-zdC]at hcl;have HX:=zzH hX;have HB:=zzH hBX;have c0:=hX.c0;have c3:=hX.c3;have c5:=hX.c5;have c7:=hX.c7;have hlx:=hX.lt;clear hX hBX;rw [HOP.out]at c0;generalize hBz:w.heap.size=B at *;have HBZ:=zzH hBz;clear hBz;go_wp2_with fail;refine hcl.mono ?_;rintro e w1 ⟨rfl,hb1⟩;have hX1:=HX.out.below hb1;have HB1:Hid (Below B w w1):=zzH (HB.out.trans (hb1.mono (by have:=HB.out.size;have:=HBZ.out;omega)));have hbb:=hb1.size;clear hb1 c0 c3 c5 c7 hcl;have c0:=hX1.c0;have c3:=hX1.c3;have c5:=hX1.c5;have c7:=hX1.c7;have hlx1:=hX1.lt;have HX1:=zzH hX1;clear hX1;rw [HOP.out]at c0;have hop2:=ze7 x.name x.src.length w1
 cases q1:(zbx x.name x.src.length==1)with
 |true=>
  exact zz190
 |false=>
  simp only [q1]at E0
  cases q2:(zbx x.name x.src.length==2)with
  |true=>
   exact zz191
  |false=>
   exact zz191
theorem zl7 (x:RIns) (so co' go':zzA) (sc cc' gc':Nat) (w:World) (hs:x.name.size<=maxLen) (r2:x.src.length<=9223372036854775807) (r1:I64 x.n) (hop:x.op=15):
  Calls Tryz.prog 37 #[.agg (zzi x so sc co' cc' go' gc')] w fun e w'=>e= .returned (.bool (zbp x))/\Below w.heap.size w w':=by
 unfold zzi;have E0:Hid (zbp x=(((x.name.toList== [33])&&(x.n==2))||(zbx x.name x.n==3))):=zzH (by unfold zbp;rw [if_neg (by omega),if_neg (by omega),if_pos hop]);have HOP:=zzH hop;clear hop;go_in;go_upto_region 1 with fail;have hX:=zfK w x so co' go' sc cc' gc';have hBX:Below w.heap.size w (w.alloc (.cells (zzi x so sc co' cc' go' gc') 47)):=zzE _ _;generalize w.alloc (.cells (zzi x so sc co' cc' go' gc') 47)=W at *;have hcl:=zel x.name x.src.length W hs;rw [<-zdC]at hcl;have HX:=zzH hX;have HB:=zzH hBX;have c0:=hX.c0;have c3:=hX.c3;have c5:=hX.c5;have c7:=hX.c7;have hlx:=hX.lt;clear hX hBX;rw [HOP.out]at c0;generalize hBz:w.heap.size=B at *;have HBZ:=zzH hBz;clear hBz;go_wp2_with fail;refine hcl.mono ?_;rintro e w1 ⟨rfl,hb1⟩;have hX1:=HX.out.below hb1;have HB1:Hid (Below B w w1):=zzH (HB.out.trans (hb1.mono (by have:=HB.out.size;have:=HBZ.out;omega)));have hbb:=hb1.size;clear hb1 c0 c3 c5 c7 hcl;have c0:=hX1.c0;have c3:=hX1.c3;have c5:=hX1.c5;have c7:=hX1.c7;have hlx1:=hX1.lt;have HX1:=zzH hX1;clear hX1;rw [HOP.out]at c0;have hop2:=ze7 x.name x.src.length w1;have hc2:=zel x.name x.n w1 hs;rw [<-zdC]at hc2
 cases q3:(zbx x.name x.n==3)with
 |true=>
  simp only [q3]at E0;exact zz193
 |false=>
  simp only [q3]at E0
  cases t1:(x.name.toList== [33])with
  |true=>
   simp only [t1]at E0
   cases q2:(x.n==2)with
   |true=>
    exact zz192
   |false=>
    exact zz192
  |false=>
   simp only [t1]at E0;exact zz193
theorem zjV (x:RIns) (so co' go':zzA) (sc cc' gc':Nat) (w:World) (hs:x.name.size<=maxLen) (r2:x.src.length<=9223372036854775807) (r1:I64 x.n) (h13: ¬x.op=13) (h14: ¬x.op=14) (h15: ¬x.op=15):
  Calls Tryz.prog 37 #[.agg (zzi x so sc co' cc' go' gc')] w fun e w'=>e= .returned (.bool (zbp x))/\Below w.heap.size w w':=by
 unfold zzi;have E0:Hid (zbp x=true):=zzH (by unfold zbp;rw [if_neg h13,if_neg h14,if_neg h15]);have t13:(x.op==13)=false:=zzB.2 h13;have t14:(x.op==14)=false:=zzB.2 h14;have t15:(x.op==15)=false:=zzB.2 h15;clear h13 h14 h15;go_in;go_upto_region 1 with fail;have hX:=zfK w x so co' go' sc cc' gc';have hBX:Below w.heap.size w (w.alloc (.cells (zzi x so sc co' cc' go' gc') 47)):=zzE _ _;generalize w.alloc (.cells (zzi x so sc co' cc' go' gc') 47)=W at *;have hcl:=zel x.name x.src.length W hs;rw [<-zdC]at hcl;have HX:=zzH hX;have HB:=zzH hBX;have c0:=hX.c0;have c3:=hX.c3;have c5:=hX.c5;have c7:=hX.c7;have hlx:=hX.lt;clear hX hBX;generalize hBz:w.heap.size=B at *;have HBZ:=zzH hBz;clear hBz;go_wp2_with fail;refine hcl.mono ?_;rintro e w1 ⟨rfl,hb1⟩;have hX1:=HX.out.below hb1;have HB1:Hid (Below B w w1):=zzH (HB.out.trans (hb1.mono (by have:=HB.out.size;have:=HBZ.out;omega)));have hbb:=hb1.size;clear hb1 c0 c3 c5 c7 hcl;have c0:=hX1.c0;have c3:=hX1.c3;have c5:=hX1.c5;have c7:=hX1.c7;have hlx1:=hX1.lt;have HX1:=zzH hX1;clear hX1;have hop2:=ze7 x.name x.src.length w1;go_wp2_with fail;refine hop2.mono ?_;rintro e w2 ⟨rfl,rfl⟩;go_wp2;go_ret;exact⟨zl E0.out.symm,by rw [HBZ.out];exact HB1.out⟩
theorem zkV (x:RIns) (so co' go':zzA) (sc cc' gc':Nat) (w:World) (hs:x.name.size<=maxLen) (r2:x.src.length<=9223372036854775807) (r1:I64 x.n):
  Calls Tryz.prog 37 #[.agg (zzi x so sc co' cc' go' gc')] w fun e w'=>e= .returned (.bool (zbp x))/\Below w.heap.size w w':=by
 unfold zzi;by_cases h13:x.op=13
 ·exact zmM x so co' go' sc cc' gc' w hs r2 r1 h13
 by_cases h14:x.op=14
 ·exact zmL x so co' go' sc cc' gc' w hs r2 r1 h14
 by_cases h15:x.op=15
 ·exact zl7 x so co' go' sc cc' gc' w hs r2 r1 h15
 exact zjV x so co' go' sc cc' gc' w hs r2 r1 h13 h14 h15
end Go.Proofs.YthajedcbgnloeaaGreatDoor
