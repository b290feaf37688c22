/- part 13 -/
import Derived.RangeFuncNested
import Derived.Sort.OwnSortedInts
import Derived.Test.YtepjanajflkakaaGreatDoorUnrAll06
import Derived.Test.YtepjanajflkakaaGreatDoorUnrAll09
namespace Go.Proofs.YtepjanajflkakaaGreatDoor
open Go.RowKit
set_option linter.unusedVariables false
set_option linter.unusedSimpArgs false
set_option maxRecDepth 100000
set_option maxHeartbeats 40000000
open Go.RowKit Go.Shelf
attribute [local go_sem] Oper.semAt_some
theorem vtgmake_in (F:Fence) (n:Nat) (hF:F.fn 139) (hro:F.round=none) (b o i:Nat) (w:World):
  CallsIn F n Tryz.prog 139 #[.pointer (some ⟨b,o,none⟩),.int .i64 i] w fun e w'=>e= .returned (.func (.func 161) #[] #[.pointer (some ⟨w.heap.size,0,none⟩),.pointer (some ⟨w.heap.size+1,0,none⟩)])/\w'=(w.alloc (.cells #[.pointer (some ⟨b,o,none⟩)] 95)).alloc (.cells #[.int .i64 i] 3):=by
 refine callsIn_of_wp Tryz.func139 rfl hF ?_ hro
 simp only [Tryz.ntmps139,List.size_toArray,List.length_cons,List.length_nil,Nat.reduceAdd,Nat.reduceSub,Array.replicate_succ,Array.replicate_zero,List.push_toArray,List.append_toArray,List.nil_append,List.cons_append]
 gi_wp2
 go_ret
 exact⟨rfl,rfl⟩
theorem vtargets_stops (F:Fence) (n:Nat) (hF:F.fn 161) (hro:F.round=none) (hn:1<=n) (Bp Bi b o i:Nat) (x:RIns) (co:Option Addr) (cc:Nat) (w0 w:World) (hcl:x.cases.length<=1000) (hi:i<=1000000)
  (ht:TgAt w0 w Bp b o x co cc) (hbi:Boxed w Bi 3 (.int .i64 i)) (h0:w0.heap.size<=w.heap.size):
  SeqStopsK F n Tryz.prog 161 #[.pointer (some ⟨Bp,0,none⟩),.pointer (some ⟨Bi,0,none⟩)] (fun y:Int=>#[.int .i64 y]) (KpT w0.heap.size Bp) (fun ys=>ys=targetsV i x) (fun _=>True) 1100 w:=fun l J Jx W hW hJ hJx hY hj0=>by
 have hk:KpT w0.heap.size Bp w W:=⟨hW.mono h0,fun v hv=>(hW.block Bp hv.lt).trans hv⟩
 exact vtargets_in F n hF hro hn l Bp Bi b o i x co cc w0 hcl hi J Jx (fun s A o' h=>hJ s A _ none h (World.grownBy_alloc A o' none) (fun r e=>by cases e)) hY W (ht.keep hk) (show Boxed W Bi 3 (.int .i64 i)from(hW.block Bi hbi.lt).trans hbi).cell hj0
theorem IntsAt.putObj {w:World} {ao:Option Addr} {l:List Int} {D:Nat} {ds:Option (List Deferred)} {o':Obj} (h:IntsAt w ao l) (hD:w.heap[D]?=some (.deferred ds)):IntsAt (w.putObj D o') ao l:=
 h.imp id fun⟨b,off,cs,fr,e,hb,hr⟩=>⟨b,off,cs,fr,e,(World.putObj_heap_other (fun h=>by subst h;rw [hD]at hb;cases hb)).trans hb,hr⟩
def inR (m:Nat) (l:List Int):List Int:=l.filter fun k=>decide (0<=k)&&decide (k<m)
theorem inR_hit (m:Nat) (l:List Int) {y:Int} (h0:0<=y) (h1:y<m):inR m (l++ [y])=inR m l++ [y]:=by unfold inR;simp [h0,h1]
theorem inR_miss (m:Nat) (l:List Int) {y:Int} (h: ¬(0<=y/\y<m)):inR m (l++ [y])=inR m l:=by
 unfold inR
 rw [List.filter_append,List.filter_cons_of_neg (by simpa using h)]
 simp
theorem mem_compactUpTo (d:Array Int): ∀(m:Nat) (k:Int),k∈Lib.compactUpTo d m↔ ∃j,j<m/\d[j]! =k
 |0,k=>by simp [Lib.compactUpTo]
 |m+1,k=>by
  rw [Lib.compactUpTo_succ,List.mem_append,mem_compactUpTo d m k]
  constructor
  ·rintro(⟨j,h1,h2⟩|h)
   ·exact⟨j,by omega,h2⟩
   ·split at h
    ·exact⟨m,Nat.lt_succ_self m,(List.mem_singleton.1 h).symm⟩
    ·cases h
  ·rintro⟨j,h1,h2⟩
   by_cases hj:j<m
   ·exact .inl ⟨j,hj,h2⟩
   ·obtain rfl:j=m:=by omega
    by_cases hk:Lib.keeps d j=true
    ·rw [if_pos hk];exact .inr (List.mem_singleton.2 h2.symm)
    ·refine .inl ⟨j-1,?_,?_⟩
     ·have:j≠0:=fun e=>by subst e;exact hk (by simp [Lib.keeps])
      omega
     ·have:d[j]! =d[j-1]!:=Classical.byContradiction fun hn=>hk (Lib.keeps_pos hn)
      rw [<-this,h2]
theorem mem_compact (zs:List Int) (k:Int):k∈Lib.compact zs↔k∈zs:=by
 unfold Lib.compact
 rw [mem_compactUpTo]
 constructor
 ·rintro⟨j,h1,h2⟩
  rw [<-h2]
  simp [h1]
 ·intro h
  obtain⟨j,hj,rfl⟩:=List.getElem_of_mem h
  exact⟨j,hj,by simp [hj]⟩
theorem grow_none (w:World):Sort.grow w #[]=w:=by cases w;simp [Sort.grow]
theorem ints_compact {w:World} {g q:Nat} {cur:Array Value} {fr:Nat × Nat} {zs L:List Int} (hb:w.heap[g]?=some (.cells cur 3 fr)) (hl:L.length=zs.length) (h:zs.length<=cur.size) {r:List Int} (hr:r.length<=L.length) (he: ∀j (hj:j<r.length) (hj':j<L.length),L[j]=r[j]):
  IntsAt (Sort.putRow (Value.int .i64) (Sort.ahead w q) g 0 L.toArray) (some ⟨g,0,none⟩) r:=by
 have h1:=heap_sortedI (n:=q) (os:=#[]) L.toArray hb
 rw [grow_none]at h1
 refine .inr ⟨g,0,_,fr,rfl,h1,fun j hj=>?_⟩
 have h2:=take_putCellsI cur L (by omega)
 have h3:((Sort.putCells (Value.int .i64) 0 L.toArray cur).toList.take L.length)[j]?=(L.map (Value.int .i64))[j]?:=by rw [h2]
 rw [List.getElem?_take_of_lt (by omega),Array.getElem?_toList,List.getElem?_map,List.getElem?_eq_getElem (show j<L.length by omega)]at h3
 rw [Nat.zero_add,h3]
 simp only [Option.map_some]
 rw [he j hj (by omega)]
theorem vnext_any (cb cf m cap i:Nat) (x:RIns) (so co go:Option Addr) (sc cc gc:Nat) (w:World) (hi:IBox w cb (cf+i*10) x so co go sc cc gc) (him:i<m) (hm:m<=1000000) (hcl:x.cases.length<=1000):
  Calls Tryz.prog 99 #[.slice (some ⟨cb,cf,none⟩) m cap,.int .i64 i] w fun e w'=>(∃ks ao c,e= .returned (.slice ao ks.length c)/\IntsAt w' ao ks/\SuccOk m i x ks/\ks.length<=1100)/\Below w.heap.size w w':=by
 obtain⟨i0,hinf,hz0,hz1,hz2⟩:=info_parts infoInt
 have hI0:(0:Int)<=(i:Int):=by omega
 have hI1:(i:Int)<(m:Int):=by omega
 have t0:decide ((i:Int)<0)=false:=decide_eq_false (by omega)
 have t1:decide (m<=i)=false:=decide_eq_false (by omega)
 have HI:=Lib.hid hi
 clear hi
 have bL0:=Boxed.new w 25 (.slice (some ⟨cb,cf,none⟩) m cap)
 have bO0:=Boxed.new (w.alloc (.cells #[.slice (some ⟨cb,cf,none⟩) m cap] 25)) 38 (.slice none 0 0)
 have bP0:=Boxed.new ((w.alloc (.cells #[.slice (some ⟨cb,cf,none⟩) m cap] 25)).alloc (.cells #[.slice none 0 0] 38)) 95 (.pointer (some ⟨cb,cf+i*10,none⟩))
 have bI0:=Boxed.new (((w.alloc (.cells #[.slice (some ⟨cb,cf,none⟩) m cap] 25)).alloc (.cells #[.slice none 0 0] 38)).alloc (.cells #[.pointer (some ⟨cb,cf+i*10,none⟩)] 95)) 3 (.int .i64 i)
 have hB0:Below w.heap.size w ((((w.alloc (.cells #[.slice (some ⟨cb,cf,none⟩) m cap] 25)).alloc (.cells #[.slice none 0 0] 38)).alloc (.cells #[.pointer (some ⟨cb,cf+i*10,none⟩)] 95)).alloc (.cells #[.int .i64 i] 3)):=
  ((((Below.refl _ w).alloc (Nat.le_refl _) _).alloc (by simp) _).alloc (by simp;omega) _).alloc (by simp;omega) _
 have bL:=((bL0.alloc (.cells #[.slice none 0 0] 38)).alloc (.cells #[.pointer (some ⟨cb,cf+i*10,none⟩)] 95)).alloc (.cells #[.int .i64 i] 3)
 have bO:=(bO0.alloc (.cells #[.pointer (some ⟨cb,cf+i*10,none⟩)] 95)).alloc (.cells #[.int .i64 i] 3)
 have bP:=bP0.alloc (.cells #[.int .i64 i] 3)
 clear bL0 bO0 bP0
 simp only [World.size_alloc]at bO bP bI0
 have HBL:=Lib.hid bL;have HBO:=Lib.hid bO;have HBP:=Lib.hid bP;have HBI:=Lib.hid bI0;have HB0:=Lib.hid hB0
 clear bL bO bP bI0 hB0
 refine(callsIn_wide (n:=6)).1 ?_
 refine callsIn_of_wp_marks Tryz.func99 rfl trivial ?_ (by rfl)
 simp only [Tryz.ntmps99,List.size_toArray,List.length_cons,List.length_nil,Nat.reduceAdd,Nat.reduceSub,Array.replicate_succ,Array.replicate_zero,List.push_toArray,List.append_toArray,List.nil_append,List.cons_append]
 gi_wp2_with (refine⟨trivial,?_⟩;gi_at_call 139;refine(vtgmake_in Fence.wide 5 trivial rfl _ _ _ _).mono ?_;rintro e w' ⟨rfl,rfl⟩)
 generalize(((w.alloc (.cells #[.slice (some ⟨cb,cf,none⟩) m cap] 25)).alloc (.cells #[.slice none 0 0] 38)).alloc (.cells #[.pointer (some ⟨cb,cf+i*10,none⟩)] 95)).alloc (.cells #[.int .i64 i] 3)=W0 at *
 have hsz:w.heap.size<=W0.heap.size:=HB0.out.size
 have hTg:TgAt w W0 (w.heap.size+1+1) cb (cf+i*10) x co cc:=⟨HB0.out,HBP.out,HI.out.lt,HI.out.c0,HI.out.c4,HI.out.c8,HI.out.cases⟩
 have hIO:OwnFrom W0.heap.size (fun(pre:List Int) W=>((∃v,Boxed W (w.heap.size+1) 38 v/\W.ownsRow w.heap.size 3 1 v (inR m pre).length ((inR m pre).map (Value.int .i64))/\True)/\Boxed W w.heap.size 25 (.slice (some ⟨cb,cf,none⟩) m cap))/\Below w.heap.size w W):=
  OwnFrom.and (OwnFrom.and (Own.from (holdsRow_own w.heap.size (w.heap.size+1) 38 3 1 (fun pre=>(inR m pre).length) (fun pre=>(inR m pre).map (Value.int .i64)) (fun _ _=>True)) _) (Own.from (boxed_own w.heap.size 25 (fun _=>.slice (some ⟨cb,cf,none⟩) m cap)) _)) (ownFrom_below (Nat.le_refl _) hsz)
 have hKb: ∀(W:World) (l:Nat) (o o':Obj),W0.heap.size<=l->W.heap[l]?=some o->o.isCells=false->o.isWalk=false->KpT w.heap.size (w.heap.size+1+1) W (W.putObj l o'):=fun W l o o' hl h hc hk=>
  ⟨belowK_b (w:=W0) hsz W l o o' hl h hc hk,fun v hv=>(World.putObj_heap_other (fun e=>by
   rw [<-e]at h
   rw [show W.heap[w.heap.size+1+1]?=_ from hv]at h
   injection h with h
   rw [<-h]at hc;cases hc)).trans hv⟩
 have htl:(targetsV i x).length<=1002:=by
  unfold targetsV
  rw [List.length_append,List.length_append]
  have h1:(if followsV x.op=true then [(i:Int)+1]else []).length<=1:=by split<;>simp
  have h2:(if toB x.op=true then [x.to]else []).length<=1:=by split<;>simp
  have h3:(if x.op=12 then x.cases.map RCase.to else []).length<=1000:=by split<;>simp;omega
  omega
 have HTL:=Lib.hid htl
 clear htl t0 t1
 refine wpIn_rangeFunc_ownG (w0:=W0) (F:=Fence.wide) rfl (by decide) (gf:=161) (lb:=#[.pointer (some ⟨w.heap.size+1+1,0,none⟩),.pointer (some ⟨w.heap.size+1+1+1,0,none⟩)]) rfl trivial (enters_of Tryz.func161 (by kernel_rfl) rfl)
  (vtargets_stops Fence.wide 5 trivial rfl (by decide) (w.heap.size+1+1) (w.heap.size+1+1+1) cb (cf+i*10) i x co cc w W0 hcl (by omega) hTg HBI.out hsz) (fun h k=>h.trans k) hKb (Below.refl _ _) (fun _=>rfl)
  (fun pre W=>((∃v,Boxed W (w.heap.size+1) 38 v/\W.ownsRow w.heap.size 3 1 v (inR m pre).length ((inR m pre).map (Value.int .i64))/\True)/\Boxed W w.heap.size 25 (.slice (some ⟨cb,cf,none⟩) m cap))/\Below w.heap.size w W)
  (fun _ _ _=>False) hIO (fun _ _ _ _ _ hs _ _=>hs)
  ⟨⟨⟨_,HBO.out,World.ownsRow_nil _ _ _ _,trivial⟩,HBL.out⟩,HB0.out⟩
  (fun y=>{tmps:=#[.slice (some ⟨cb,cf,none⟩) m cap,.int .i64 i,.pointer (some ⟨w.heap.size,0,none⟩),undef,.slice none 0 0,.pointer (some ⟨w.heap.size+1,0,none⟩),.int .i64 y,.int .i64 i,.bool false,.bool false,.int .i64 i,.slice (some ⟨cb,cf,none⟩) m cap,.int .i64 m,.bool false,.bool false,
   .slice (some ⟨cb,cf,none⟩) m cap,.int .i64 i,.pointer (some ⟨cb,cf+i*10,none⟩),.int .i64 i,.func (.func 161) #[] #[.pointer (some ⟨w.heap.size+1+1,0,none⟩),.pointer (some ⟨w.heap.size+1+1+1,0,none⟩)],.int .i64 y,
   undef,undef,undef,undef,undef,undef,undef,undef,undef,undef,undef,undef,undef,undef,undef,undef],defers:=[]}) ?assign ?body ?done ?stop
 case assign=>
  intro l y W K hK
  gi_wp2
  exact hK
 case body=>
  rintro l pre y W ⟨⟨⟨v,hv,hrow,-⟩,hL⟩,hB⟩ hlt
  have hc:=hv.cell
  have hcL:=hL.cell
  have hpl:(inR m pre).length<=pre.length:=List.length_filter_le _ _
  clear hIO hKb hTg
  by_cases hy0:0<=y
  ·have u0:decide (0<=y)=true:=decide_eq_true hy0
   by_cases hy1:y<m
   ·have u1:decide (y<(m:Int))=true:=decide_eq_true hy1
    have hR:=inR_hit m pre hy0 hy1
    have HR:=Lib.hid hR
    clear hR
    gi_wp2_with (gi_at_builtin;refine wpListIn_append_own _ rfl _ _ 38 rfl w.heap.size 3 i0 (.int .i64 0) 1 8 Tryz.underlying38 hinf hz0 hz1 hz2 rfl (by decide) _ _ _ rfl (hrow.alloc _) ⟨W.heap.size,0,none⟩ 1 1 [.int .i64 y] rfl rfl (cell_one_new _ _ _) (by simp [Value.oneCell']) (by unfold maxLen;omega) (by omega) (by have:=hB.size;simp;omega) ?_;intro v' w1 hown' hgrow _;obtain⟨g',cap',rfl⟩:=ownsRow_succ hown';obtain⟨hv1,hv2,hr2,hk2,hb2⟩:=hv.appended (by decide) hrow hB.size (Nat.le_succ _) hown' hgrow;have hc1:=hv1.cell;have hf1:=hv1.frozen)
    have hkeep: ∀(B:Nat) (T:TypeId) (u:Value),T≠3->B≠w.heap.size+1->Boxed W B T u->Boxed (w1.setCell ⟨w.heap.size+1,0,none⟩ (.slice (some ⟨g',0,none⟩) ((inR m pre).length+1) cap')) B T u:=fun B T u hT hne hu=>
     ((hu.alloc _).kept hgrow (hu.not_row hT hrow)).kept (grownBy_setCell' w1 (w.heap.size+1) _) (fun e=>hne (by cases e;rfl))
    exact⟨hk2.from _,⟨hb2,fun u hu=>hkeep _ _ u (by decide) (by omega) hu⟩,⟨⟨_,hv2,by rw [HR.out,List.length_append,List.map_append];exact hr2,trivial⟩,hkeep _ _ _ (by decide) (by omega) hL⟩,hB.trans hb2⟩
   ·have u1:decide (y<(m:Int))=false:=decide_eq_false hy1
    have HR:=Lib.hid (inR_miss m pre (fun h=>hy1 h.2))
    gi_wp2
    exact⟨KeepsFrom.refl _ _,KpT.refl _ _ _,⟨⟨v,hv,by rw [HR.out];exact hrow⟩,hL⟩,hB⟩
  ·have u0:decide (0<=y)=false:=decide_eq_false hy0
   have HR:=Lib.hid (inR_miss m pre (fun h=>hy0 h.1))
   gi_wp2
   exact⟨KeepsFrom.refl _ _,KpT.refl _ _ _,⟨⟨v,hv,by rw [HR.out];exact hrow⟩,hL⟩,hB⟩
 case done=>
  rintro D ys W hD rfl ⟨⟨⟨v,hv,hrow,-⟩,hL⟩,hB⟩ hK
  have hsu: ∀zs:List Int,(∀k,k∈zs↔k∈inR m (targetsV i x))->SuccOk m i x zs:=fun zs h k=>by
   rw [h k];unfold inR
   rw [List.mem_filter,Bool.and_eq_true,decide_eq_true_eq,decide_eq_true_eq]
  have hsl:(inR m (targetsV i x)).length<=1002:=Nat.le_trans (List.length_filter_le _ _) HTL.out
  have HSU:=Lib.hid hsu
  generalize inR m (targetsV i x)=S at *
  have hc:=hv.cell
  have hnot:=hv.not_row (by decide) hrow
  rcases hrow.2 with⟨rfl,h0⟩|⟨g,cp,cur,rfl,hbase,hgb,h1,h2,h3,h4⟩
  ·obtain rfl:S= []:=List.eq_nil_of_length_eq_zero h0
   gi_wp2_with (first|(refine⟨trivial,?_⟩;gi_at_call 140;refine(callsIn_wide.2 (Tryz.slices_Sort_int_none _ _ _)).mono ?_;rintro e w1 ⟨rfl,rfl⟩)|(refine⟨trivial,?_⟩;gi_at_call 141;refine(callsIn_wide.2 (Tryz.slices_Compact_int_empty _ _ _)).mono ?_;rintro e w1 ⟨rfl,rfl⟩))
   refine⟨by simp,.inl ⟨_,_,rfl,run_takeDeferred hK,?_⟩⟩
   exact⟨_,results_tmp rfl _ _ _,⟨[],_,_,rfl,.inl rfl,HSU.out [] (fun k=>Iff.rfl),by decide⟩,hB.trans (belowK_b (w:=w) (Nat.le_refl _) _ D _ _ (by omega) hK rfl rfl)⟩
  ·have hgl:g<W.heap.size:=(Array.getElem?_eq_some_iff.1 hgb).1
   have hso:=Tryz.slices_Sort_int g 0 cp S W (holds_of_blockI hgb (by simpa using h4)) hgl (by omega)
   obtain⟨T,hT⟩: ∃T,T=S.mergeSort (fun x y=>decide (x<=y)):=⟨_,rfl⟩
   rw [<-hT]at hso
   have hTl:T.length=S.length:=by rw [hT,List.length_mergeSort]
   have hTm: ∀k,k∈T↔k∈S:=fun k=>by rw [hT];exact List.mem_mergeSort
   have hso2:Calls Tryz.prog 140 #[.slice (some ⟨g,0,none⟩) S.length cp] W fun e w1=>e= .returned (.tuple #[])/\ ∃cur1,w1.heap[g]?=some (.cells cur1 3 (0,0))/\cur1.toList.take T.length=T.map (Value.int .i64)/\cur1.size=cur.size/\W.grownBy w1 (some g):=
    hso.mono fun e w1 ⟨he,nn,os,hw⟩=>by
     subst hw
     exact⟨he,_,heap_sortedI _ hgb,take_putCellsI cur T (by rw [hTl];omega),by simp [Sort.putCells],grownBy_sortedI _⟩
   have HSO:=Lib.hid hso2;have HTm:=Lib.hid hTm;have HTl:=Lib.hid hTl
   clear hso hso2 hT hTm hTl
   gi_wp2_with (refine⟨trivial,?_⟩;gi_at_call 140;refine(callsIn_wide.2 HSO.out).mono ?_;rintro e W1 ⟨rfl,cur1,hrow1,h41,hcs,hgr⟩;have hc1:=(hv.kept hgr (fun e=>hnot (by rw [e];rfl))).cell)
   have hK1:W1.heap[D]?=some (.deferred (some [])):=(hgr.block D (Array.getElem?_eq_some_iff.1 hK).1 (fun e=>by
    have:g=D:=by simpa using e.symm
    rw [this,hK]at hgb;cases hgb)).trans hK
   have hB1:RowKit.Below w.heap.size w W1:=hB.grown hgr hB.size (fun j hj=>by cases hj;exact hbase)
   have hco:=Tryz.slices_Compact_int g 0 cp T W1 (holds_of_blockI hrow1 h41) (by rw [HTl.out];omega) (by rw [HTl.out];exact h1)
   rw [HTl.out]at hco
   have HCO:=Lib.hid hco
   have hgl1:=(Array.getElem?_eq_some_iff.1 hrow1).1
   clear hco hgr hgl
   gi_wp2_with (refine⟨trivial,?_⟩;gi_at_call 141;refine(callsIn_wide.2 HCO.out).mono ?_;rintro e w2 ⟨rfl,q,rfl⟩)
   have hcl2:(Lib.compact T).length<=T.length:=Lib.compact_length_le T
   have hLl:(Lib.compact T++List.replicate (S.length-(Lib.compact T).length) 0).length=T.length:=by
    have:=HTl.out
    rw [List.length_append,List.length_replicate];omega
   have hints:=ints_compact (q:=q) hrow1 hLl (by rw [hcs,HTl.out];omega) (r:=Lib.compact T) (by rw [hLl];exact hcl2) (fun j hj hj'=>by rw [List.getElem_append_left hj])
   have hgr2:=grownBy_sortedI (n:=q) (os:=#[]) (w:=W1) (g:=g) (Lib.compact T++List.replicate (S.length-(Lib.compact T).length) 0).toArray
   rw [grow_none]at hgr2
   have hK2:(Sort.putRow (Value.int .i64) (Sort.ahead W1 q) g 0 (Lib.compact T++List.replicate (S.length-(Lib.compact T).length) 0).toArray).heap[D]?=some (.deferred (some [])):=(hgr2.block D (Array.getElem?_eq_some_iff.1 hK1).1 (fun e=>by
    have:g=D:=by simpa using e.symm
    rw [this,hK1]at hrow1;cases hrow1)).trans hK1
   have hB2:RowKit.Below w.heap.size w (Sort.putRow (Value.int .i64) (Sort.ahead W1 q) g 0 (Lib.compact T++List.replicate (S.length-(Lib.compact T).length) 0).toArray):=hB1.grown hgr2 hB1.size (fun j hj=>by cases hj;exact hbase)
   refine⟨by simp,.inl ⟨_,_,rfl,run_takeDeferred hK2,?_⟩⟩
   have hbl:=belowK_b (w:=w) (Nat.le_refl _) _ D _ (.deferred none) (by omega) hK2 rfl rfl
   exact⟨_,results_tmp rfl _ _ _,⟨Lib.compact T,_,_,rfl,hints.putObj hK2,HSU.out _ (fun k=>(mem_compact T k).trans (HTm.out k)),by have:=HTl.out;omega⟩,hB2.trans hbl⟩
 case stop=>
  rintro D c pre W _ _ h _
  exact h.elim
theorem getD_some {l:List Int} {k:Nat} (h:k<l.length):l[k]?=some (l.getD k 0):=by
 rw [List.getD_eq_getElem?_getD,List.getElem?_eq_getElem h];rfl
theorem take_eq {l m:List Int} {k:Nat} (h:l.take k=m.take k) (hl:l.length<=k) (hm:m.length<=k):l=m:=by
 rw [List.take_of_length_le hl,List.take_of_length_le hm]at h;exact h
theorem same17_any (l m:List Int) (ao bo:Option Addr) (c d:Nat) (w:World) (hl:IntsAt w ao l) (hm:IntsAt w bo m) (b1:l.length<=1000000) (b2:m.length<=1000000):
  Calls Tryz.prog 37 #[.slice ao l.length c,.slice bo m.length d] w fun e w'=>e= .returned (.bool (decide (l=m)))/\ ∃q,w'=w.drewN q:=by
 have HL:=Lib.hid hl;have HM:=Lib.hid hm
 clear hl hm
 by_cases hn:l.length=m.length
 ·have HN:=Lib.hid hn
  rw [<-hn]
  have n1:(l.length:Int)<=1000000:=by omega
  clear hn b2
  go_in
  go_wp2_with fail
  go_loopw [5] (fun iv wr=> ∃k:Nat,k<=l.length/\iv= .int .i64 k/\Hid (∃q,wr=w.drewN q)/\Hid (l.take k=m.take k)) (fun iv _=>l.length-(intOf iv).toNat)
  case atStart=>exact⟨0,Nat.zero_le _,rfl,Lib.hid ⟨0,rfl⟩,Lib.hid rfl⟩
  case round=>
   obtain⟨k,hk,rfl,HQ,HT⟩:=hrel
   rename World=>wr
   by_cases hlt:k<l.length
   ·obtain⟨q,hq⟩:=HQ.out
    have hlm:k<m.length:=by have:=HN.out;omega
    obtain⟨pb,po,rfl,-,e1⟩:=HL.out.cell hlt
    obtain⟨qb,qo,rfl,-,e2⟩:=HM.out.cell hlm
    have hk0:(0:Int)<=(k:Int):=by omega
    have hk1:(k:Int)<(l.length:Int):=by omega
    by_cases he:l.getD k 0=m.getD k 0
    ·have HS:Hid (l.take (k+1)=m.take (k+1)):=Lib.hid (by rw [List.take_add_one,List.take_add_one,HT.out,getD_some hlt,getD_some hlm,he])
     have u1:=stEq he
     generalize l.getD k 0=x at *;generalize m.getD k 0=y at *
     clear he
     go_wp2_with fail
     go_quiet (fail)
     go_wp2_with fail
     refine⟨⟨k+1,hlt,by go_num,Lib.hid ?_,HS⟩,by simp [intOf];omega⟩
     first|exact⟨_,rfl⟩|(simp only [World.drewN_drewN];exact⟨_,rfl⟩)
    ·have HF:Hid (decide (l=m)=false):=Lib.hid (decide_eq_false (fun e=>he (by subst e;rfl)))
     have u1:=stNe he
     generalize l.getD k 0=x at *;generalize m.getD k 0=y at *
     clear he
     go_wp2_with fail
     go_quiet (fail)
     go_wp2_with fail
     go_ret
     exact⟨by rw [HF.out];rfl,by first|exact⟨_,rfl⟩|(simp only [World.drewN_drewN];exact⟨_,rfl⟩)⟩
   ·obtain rfl:k=l.length:=by omega
    have HF:Hid (decide (l=m)=true):=Lib.hid (decide_eq_true (take_eq HT.out (Nat.le_refl _) (Nat.le_of_eq HN.out.symm)))
    go_wp2_with fail
    go_ret
    exact⟨by rw [HF.out];rfl,HQ.out⟩
 ·have HF:Hid (decide (l=m)=false):=Lib.hid (decide_eq_false (fun e=>hn (by rw [e])))
  have u1:((l.length:Int)!=(m.length:Int))=true:=stNe (fun h=>hn (by omega))
  clear hn
  go_in
  go_wp2_with fail
  go_ret
  exact⟨by rw [HF.out];rfl,0,rfl⟩
end Go.Proofs.YtepjanajflkakaaGreatDoor
