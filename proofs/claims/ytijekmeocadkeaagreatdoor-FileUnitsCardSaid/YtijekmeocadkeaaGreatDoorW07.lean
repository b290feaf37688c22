import Derived.Test.YtijekmeocadkeaaGreatDoorW03
import Derived.Test.YtijekmeocadkeaaGreatDoorW04
namespace Go.Proofs.YtijekmeocadkeaaGreatDoor
open Go.RowKit
set_option linter.unusedVariables false
set_option linter.unusedSimpArgs false
set_option maxRecDepth 100000
set_option maxHeartbeats 0
open Go.RowKit Go.Shelf
theorem zgv:(Tryz.prog.info? 67).map (·.size)=some 2:=by kernel_rfl
theorem zhK:liesAt Tryz.prog Tryz.prog.depth 67 (2/Tryz.prog.cellsOf 67) 0 67 1=true:=by kernel_rfl
theorem zln:(Tryz.prog.info? 5).map (fun i=>(i.zero,i.size,i.bytes))=some (some (.int .u8 0),1,1):=by kernel_rfl
theorem zhD (b:Nat) (w:World) (h0:w.cell? ⟨b,0,none⟩=some (.pointer (some ⟨b,0,none⟩))):
  Calls Tryz.prog 66 #[.pointer (some ⟨b,0,none⟩)] w fun e w'=>e= .returned (.tuple #[])/\w'=w:=by
 obtain⟨j,hj,_⟩:=Option.map_eq_some_iff.1 zgv;go_in;go_wp2;rw [Lib.run_neq_ptr_same w _ Tryz.underlying64 hj];go_wp2;go_end0;exact⟨rfl,rfl⟩
theorem zhe (b:Nat) (w:World) (h0:w.cell? ⟨b,0,none⟩=some (.pointer none)) (hsh:w.shape? b=some (67,2)) (hfz:w.frozen? ⟨b,0,none⟩=false):
  Calls Tryz.prog 66 #[.pointer (some ⟨b,0,none⟩)] w fun e w'=>e= .returned (.tuple #[])/\w'=w.setCell ⟨b,0,none⟩ (.pointer (some ⟨b,0,none⟩)):=by
 obtain⟨j,hj,hjs⟩:=Option.map_eq_some_iff.1 zgv;go_in;go_wp2;rw [Lib.run_to_unsafe w ⟨b,0,none⟩ Tryz.underlying64 Tryz.underlying167 hj (by rw [hjs];decide) hsh (Nat.zero_lt_succ 1)];simp only [Result.andThen];rw [Oper.upon_value];go_wp2;rw [run_callFunc_extern Tryz.func101 (by kernel_rfl) (by kernel_rfl) (by kernel_rfl) (e:=Extern.AbiNoEscape.same) (by kernel_rfl)];rw [Lib.run_noEscape];simp only [Result.andThen];rw [Oper.upon_value];go_wp2;rw [Lib.run_from_unsafe w ⟨b,0,none⟩ Tryz.underlying167 Tryz.underlying64 hj hsh zhK];simp only [Result.andThen];rw [Oper.upon_value];go_wp2;go_end0;exact⟨rfl,rfl⟩
theorem zjV (B b:Nat) (bs:List Value) (w:World) (h:Lib.IsBuilderF 67 5 B b bs w):
  Calls Tryz.prog 66 #[.pointer (some ⟨b,0,none⟩)] w fun e w'=>e= .returned (.tuple #[])/\(Lib.BuilderAtF 67 5 B b (.pointer (some ⟨b,0,none⟩)) bs w'/\Below B w w'/\Lib.OthersKept 5 (some b) w w'):=by
 rcases h with h|h
 ·refine(zhe b w h.cell0 h.shape h.frozen0).mono ?_
  rintro e w' ⟨rfl,rfl⟩;exact⟨rfl,h.used _,(zzR B w).setCell (p:=⟨b,0,none⟩) h.1 _,(Lib.OthersKept.refl _ _ _).setCell ⟨b,0,none⟩ rfl _⟩
 ·refine(zhD b w h.cell0).mono ?_
  rintro e w' ⟨rfl,rfl⟩;exact⟨rfl,h,zzR B _,Lib.OthersKept.refl _ _ _⟩
theorem zir (B b:Nat) (bs:List Value) (s:ByteArray) (w:World) (h:Lib.IsBuilderF 67 5 B b bs w) (hlen:bs.length+s.size<=140737488355328) (hBw:B<=w.heap.size):
  Calls Tryz.prog 25 #[.pointer (some ⟨b,0,none⟩),.string s] w fun e w'=>e= .returned (.tuple #[.int .i64 s.size,.nilIface])/\(Lib.BuilderAtF 67 5 B b (.pointer (some ⟨b,0,none⟩)) (bs++Lib.strCells s) w'/\Below B w w'/\Lib.OthersKept 5 (some b) w w'):=by
 obtain⟨i0,hi,hz0,hz1,hz2⟩:=info_parts zln;go_in;go_wp2_with (go_at_call 66;refine(zjV B b bs _ h).mono ?_);rintro e w1 ⟨rfl,h1,hb1,hk1⟩;obtain⟨hB,v,hbk,hown,hne⟩:=h1;have c0:w1.cell? ⟨b,0,none⟩=some (.pointer (some ⟨b,0,none⟩)):=by rw [Lib.cell_of_heap hbk];rfl
 have c1:w1.cell? ⟨b,1,none⟩=some v:=by rw [Lib.cell_of_heap hbk];rfl
 go_wp2_with (at_builtin;refine Lib.wpList_append_own_stringF _ rfl _ _ 65 9 rfl B 5 i0 Tryz.underlying65 Tryz.underlying9 hi hz0 hz1 hz2 _ _ _ rfl hown s rfl ?c3 ?c4 ?c5 ?_)
 case c3=>unfold maxLen;omega
 case c4=>omega
 case c5=>have:=hb1.size;omega
 intro v' w2 hown' hgrow _
 have hlt:b<w1.heap.size:=by
  rcases Nat.lt_or_ge b w1.heap.size with h'|h'
  ·exact h'
  ·simp [Array.getElem?_eq_none h']at hbk
 have hb2:w2.heap[b]?=some (.cells #[.pointer (some ⟨b,0,none⟩),v] 67 (0,0)):=by
  rw [hgrow.block b hlt (fun e=>hne e.symm)];exact hbk
 have d0:w2.cell? ⟨b,0,none⟩=some (.pointer (some ⟨b,0,none⟩)):=by rw [Lib.cell_of_heap hb2];rfl
 have d1:w2.cell? ⟨b,1,none⟩=some v:=by rw [Lib.cell_of_heap hb2];rfl
 have f1:w2.frozen? ⟨b,1,none⟩=false:=Lib.frozen_of_heap hb2 1
 obtain⟨ao,n',cap,rfl⟩: ∃ao n' cap,v'= .slice ao n' cap:=by
  rcases hown'.2 with⟨hv,_⟩|⟨g,cap,cur,fz,hv,_⟩
  ·exact⟨_,_,_,hv⟩
  ·exact⟨_,_,_,hv⟩
 go_wp2;go_ret2;refine⟨rfl,?_,?_,(hk1.grown hgrow (Lib.ownsRowF_kind hown)).setCell ⟨b,1,none⟩ rfl _⟩
 ·exact Lib.BuilderAtF.put (T:=67) (e:=5) hB hb2 (bs':=bs++Lib.strCells s) (by simpa [Lib.strCells_length] using hown') (by decide)
 ·exact(hb1.grown hgrow (by have:=hb1.size;omega) (fun k hk=>(hown.lt k hk).1)).setCell (p:=⟨b,1,none⟩) hB _
def IsB (B b:Nat) (l:List UInt8) (w:World):Prop:=Lib.IsBuilderF 67 5 B b (Lib.byteCells l) w/\B<=w.heap.size
theorem zi7 {w w':World} (h:Below w.heap.size w w'):w.grownBy w' none:=⟨h.os,h.tape,h.output,h.size,fun k hk _=>h.block k hk⟩
theorem zjq {B b:Nat} {p:Value} {bs:List Value} {w w':World} (h:Lib.BuilderAtF 67 5 B b p bs w) (hb:Below w.heap.size w w'):Lib.BuilderAtF 67 5 B b p bs w':=by
 have hlt:=h.lt;obtain⟨hB,v,hbk,hown,hne⟩:=h;exact⟨hB,v,(hb.block b hlt).trans hbk,hown.kept (zi7 hb) (by cases hv:v.ownBlock<;>simp),hne⟩
theorem IsB.below {B b:Nat} {l:List UInt8} {w w':World} (h:IsB B b l w) (hb:Below w.heap.size w w'):IsB B b l w':=
 ⟨h.1.elim (fun x=>.inl (zjq x hb)) (fun x=>.inr (zjq x hb)),zzY h.2 hb.size⟩
theorem IsB.drew {B b:Nat} {l:List UInt8} {w:World} (h:IsB B b l w):IsB B b l w.drew:=h
theorem IsB.lt {B b:Nat} {l:List UInt8} {w:World} (h:IsB B b l w):b<w.heap.size:=h.1.elim (fun x=>x.lt) (fun x=>x.lt)
theorem IsB.ge {B b:Nat} {l:List UInt8} {w:World} (h:IsB B b l w):B<=b:=h.1.elim (fun x=>x.1) (fun x=>x.1)
theorem zsj {B:Nat} (w:World) (h:B<=w.heap.size):IsB B w.heap.size [] (w.alloc (.cells #[.pointer none,.slice none 0 0] 67)):=
 ⟨.inl ⟨h,.slice none 0 0,zzF _ _,World.ownsRowF_nil _ _ _ _,by simp [Value.ownBlock]⟩,by simp;omega⟩
theorem zf2 (B b:Nat) (l:List UInt8) (s:ByteArray) (w:World) (h:IsB B b l w) (hlen:l.length+s.size<=140737488355328):
  Calls Tryz.prog 25 #[.pointer (some ⟨b,0,none⟩),.string s] w fun e w'=>e= .returned (.tuple #[.int .i64 s.size,.nilIface])/\IsB B b (l++s.data.toList) w'/\Below B w w'/\Lib.OthersKept 5 (some b) w w':=
 (zir B b (Lib.byteCells l) s w h.1 (by rw [Lib.byteCells_length];exact hlen) h.2).mono fun _ _ ⟨he,hi,hb,hk⟩=>
  ⟨he,⟨.inr (by rw [Lib.byteCells_append,<-Lib.strCells_eq];exact hi),zzY h.2 hb.size⟩,hb,hk⟩
theorem znm (B b:Nat) (l:List UInt8) (w:World) (h:IsB B b l w):
  Calls Tryz.prog 27 #[.pointer (some ⟨b,0,none⟩)] w fun e w'=>e= .returned (.string ⟨l.toArray⟩)/\IsB B b l w'/\Below B w w':=
 (Tryz.Builder_String_any_f B b l w h.1 h.2).mono fun _ _ ⟨he,hi,hb⟩=>⟨he,⟨hi,zzY h.2 hb.size⟩,hb⟩
def zbh (x:RIns):Bool:=
 if x.op=13 then((x.name.toList== [123,125])||((x.name.toList== [124])&&((x.src.length:Int)==2)))||((!(x.name.toList== [43,43])&&zN x.name x.src.length)||(zbu x.name x.src.length==1))
 else if x.op=14 then(zN x.name x.src.length||(zbu x.name x.src.length==1))||(zbu x.name x.src.length==2)
 else if x.op=15 then((x.name.toList== [33])&&(x.n==2))||(zbu x.name x.n==3)
 else true
theorem zq0 (b o:Nat) (x:RIns) (so co go:zzA) (sc cc gc:Nat) (w:World) (hsp:SpaceAt w) (hx:IBox w b o x so co go sc cc gc) (hs:x.name.size<=140737488355328) (hop:x.op=13):
  Calls Tryz.prog 72 #[.pointer (some ⟨b,o,none⟩)] w fun e w'=>e= .returned (.bool (zbh x))/\Below w.heap.size w w':=by
 have c0:=hx.c0;have c3:=hx.c3;have c5:=hx.c5;have c7:=hx.c7;have r2:=hx.rsrc;have hlt:=hx.lt;have hrn:=hx.rn;have hn1:I64 (x.src.length:Int):=by unfold I64;omega
 have E0:Hid (zbh x=(((x.name.toList== [123,125])||((x.name.toList== [124])&&((x.src.length:Int)==2)))||((!(x.name.toList== [43,43])&&zN x.name x.src.length)||(zbu x.name x.src.length==1)))):=zzH (by unfold zbh;rw [if_pos hop]);rw [hop]at c0;have hO:=fun wx=>zhi x.name x.src.length wx
 have hCl:=zho x.name x.src.length w hsp hs hn1;clear hop hx hsp;generalize zbh x=r at *;generalize zN x.name x.src.length=ob at *;generalize zbu x.name x.src.length=cl at *;generalize x.name=nm at *;generalize x.src.length=ln at *
 cases t1:(nm.toList== [123,125])with
 |true=>
  simp only [t1]at E0;exact zz60
 |false=>
  simp only [t1]at E0
  cases t2:(nm.toList== [124])with
  |true=>
   simp only [t2]at E0
   cases q2:((ln:Int)==2)with
   |true=>
    simp only [q2]at E0;exact zz60
   |false=>
    simp only [q2]at E0;exact zz59
  |false=>
   simp only [t2]at E0;exact zz59
theorem zr0 (b o:Nat) (x:RIns) (so co go:zzA) (sc cc gc:Nat) (w:World) (hsp:SpaceAt w) (hx:IBox w b o x so co go sc cc gc) (hs:x.name.size<=140737488355328) (hop:x.op=14):
  Calls Tryz.prog 72 #[.pointer (some ⟨b,o,none⟩)] w fun e w'=>e= .returned (.bool (zbh x))/\Below w.heap.size w w':=by
 have c0:=hx.c0;have c3:=hx.c3;have c5:=hx.c5;have c7:=hx.c7;have r2:=hx.rsrc;have hlt:=hx.lt;have hrn:=hx.rn;have hn1:I64 (x.src.length:Int):=by unfold I64;omega
 have E0:Hid (zbh x=((zN x.name x.src.length||(zbu x.name x.src.length==1))||(zbu x.name x.src.length==2))):=zzH (by unfold zbh;rw [if_neg (by omega),if_pos hop]);rw [hop]at c0;have hO:=fun wx=>zhi x.name x.src.length wx
 have hCl:=zho x.name x.src.length w hsp hs hn1;clear hop hsp;have HX:=zzH hx;clear hx;generalize zbh x=r at *;generalize zN x.name x.src.length=ob at *;generalize zbu x.name x.src.length=cl at *;generalize x.src.length=ln at *
 cases ob with
 |true=>
  exact zz62
 |false=>
  cases q1:(cl==1)with
  |true=>
   simp only [q1]at E0;exact zz62
  |false=>
   simp only [q1]at E0
   cases q2:(cl==2)with
   |true=>
    exact zz61
   |false=>
    exact zz61
theorem zrg (b o:Nat) (x:RIns) (so co go:zzA) (sc cc gc:Nat) (w:World) (hsp:SpaceAt w) (hx:IBox w b o x so co go sc cc gc) (hs:x.name.size<=140737488355328) (hop:x.op=15):
  Calls Tryz.prog 72 #[.pointer (some ⟨b,o,none⟩)] w fun e w'=>e= .returned (.bool (zbh x))/\Below w.heap.size w w':=by
 have c0:=hx.c0;have c3:=hx.c3;have c5:=hx.c5;have c7:=hx.c7;have r2:=hx.rsrc;have hlt:=hx.lt;have hrn:=hx.rn;have hn1:I64 (x.src.length:Int):=by unfold I64;omega
 have E0:Hid (zbh x=(((x.name.toList== [33])&&(x.n==2))||(zbu x.name x.n==3))):=zzH (by unfold zbh;rw [if_neg (by omega),if_neg (by omega),if_pos hop]);rw [hop]at c0;have hCl: ∀wx,Below w.heap.size w wx->Calls Tryz.prog 114 #[.string x.name,.int .i64 x.n] wx fun e w'=>e= .returned (.int .i64 (zbu x.name x.n))/\Below w.heap.size w w':=fun wx hb=>(zho x.name x.n wx (hsp.below hb) hs hrn).mono fun _ _ ⟨h1,h2⟩=>⟨h1,zd hb h2⟩
 have hdr:Below w.heap.size w w.drew:=(zzR _ _).drew;have HDR:=zzH hdr;clear hdr;clear hop hsp hx;generalize zbh x=r at *;generalize zbu x.name x.n=cl at *;generalize x.name=nm at *;generalize x.n=ln at *
 cases t1:(nm.toList== [33])with
 |true=>
  simp only [t1]at E0
  cases q2:(ln==2)with
  |true=>
   simp only [q2]at E0;simp only [zzq13,zzq12,zzq9,zzq19,Bool.and_true,Bool.and_false,zzq15,Bool.false_and]at E0;go_in;go_wp2_with fail;go_quiet (fail);go_wp2;go_ret;exact⟨zn E0.out.symm,zP (zzR _ _) _⟩
  |false=>
   simp only [q2]at E0
   cases q3:(cl==3)with
   |true=>
    exact zz63
   |false=>
    exact zz63
 |false=>
  simp only [t1]at E0;simp only [zzq13,zzq12,zzq9,zzq19,Bool.and_true,Bool.and_false,zzq15,Bool.false_and]at E0;go_in;go_wp2_with fail;have HCL:=zzH hCl;clear hCl c0 c3 r2 hrn hn1;refine wp_region_held_drew (S:=fun w'=>w'.cell? ⟨b,o+7,none⟩=some (.string nm)/\w'.cell? ⟨b,o+5,none⟩=some (.int .i64 ln)) (by kernel_rfl) ⟨by simpa using c7,by simpa using c5⟩ (fun hHeld=>?_);refine wpAnyH_take (i:=0) (v:=?v0) rfl (by kernel_rfl) (by kernel_rfl) (by kernel_rfl) (fun _ _ _ h=>h) (Or.inl ⟨by rfl,?y0⟩) hHeld ?_
  case y0=>(intro w hSw;(try dsimp only at hSw);go_simp;try with_reducible rfl)
  simp only [zzX3];refine wpAnyH_take (i:=1) (v:=?v1) rfl (by kernel_rfl) (by kernel_rfl) (by kernel_rfl) (fun _ _ _ h=>h) (Or.inl ⟨by rfl,?y1⟩) hHeld ?_
  case y1=>(intro w hSw;(try dsimp only at hSw);go_simp;try with_reducible rfl)
  simp only [zzX3];refine wpAnyH_take (i:=2) (v:=?v2) rfl (by kernel_rfl) (by kernel_rfl) (by kernel_rfl) (fun _ _ _ h=>h) (Or.inl ⟨by rfl,?y2⟩) hHeld ?_
  case y2=>(intro w hSw;(try dsimp only at hSw);go_simp;try with_reducible rfl)
  simp only [zzX3];refine wpAnyH_take (i:=3) (v:=?v3) rfl (by kernel_rfl) (by kernel_rfl) (by kernel_rfl) (fun _ _ _ h=>h) (Or.inl ⟨by rfl,?y3⟩) hHeld ?_
  case y3=>(intro w hSw;(try dsimp only at hSw);go_simp;try with_reducible rfl)
  simp only [zzX3];refine wpAnyH_take (i:=4) (v:=?v4) rfl (by kernel_rfl) (by kernel_rfl) (by kernel_rfl) (fun _ _ _ h=>h) (Or.inl ⟨by rfl,?y4⟩) hHeld ?_
  case y4=>(intro w hSw;(try dsimp only at hSw);go_simp;try with_reducible rfl)
  simp only [zzX3];refine wpAnyH_take (i:=5) (v:=?v5) rfl (by kernel_rfl) (by kernel_rfl) (by kernel_rfl) (fun _ _ _ h=>h) (Or.inl ⟨by rfl,?y5⟩) hHeld ?_
  case y5=>(intro w hSw;(try dsimp only at hSw);go_simp;try with_reducible rfl)
  simp only [zzX3];refine wpAnyH_take (i:=6) (v:=undef) rfl (by kernel_rfl) (by kernel_rfl) (by kernel_rfl) (fun _ _ _ h=>h) (Or.inr ⟨by kernel_rfl,rfl⟩) hHeld ?_;simp only [zzX3];refine wpAnyH_take (i:=7) (v:=undef) rfl (by kernel_rfl) (by kernel_rfl) (by kernel_rfl) (fun _ _ _ h=>h) (Or.inr ⟨by kernel_rfl,rfl⟩) hHeld ?_;simp only [zzX3];refine wpAnyH_take (i:=8) (v:=undef) rfl (by kernel_rfl) (by kernel_rfl) (by kernel_rfl) (fun _ _ _ h=>h) (Or.inr ⟨by kernel_rfl,rfl⟩) hHeld ?_;simp only [zzX3];refine wpAnyH_take (i:=9) (v:=undef) rfl (by kernel_rfl) (by kernel_rfl) (by kernel_rfl) (fun _ _ _ h=>h) (Or.inr ⟨by kernel_rfl,rfl⟩) hHeld ?_;simp only [zzX3];refine wpAnyH_take (i:=10) (v:=undef) rfl (by kernel_rfl) (by kernel_rfl) (by kernel_rfl) (fun _ _ _ h=>h) (Or.inr ⟨by kernel_rfl,rfl⟩) hHeld ?_;simp only [zzX3];refine wpAnyH_take (i:=11) (v:=?v11) rfl (by kernel_rfl) (by kernel_rfl) (by kernel_rfl) (fun _ _ _ h=>h) (Or.inl ⟨by rfl,?y11⟩) hHeld ?_
  case y11=>(intro w hSw;(try dsimp only at hSw);go_simp;try with_reducible rfl)
  simp only [zzX3];refine wpAnyH_take (i:=12) (v:=?v12) rfl (by kernel_rfl) (by kernel_rfl) (by kernel_rfl) (fun _ _ _ h=>h) (Or.inl ⟨by rfl,?y12⟩) hHeld ?_
  case y12=>(intro w hSw;(try dsimp only at hSw);go_simp;try with_reducible rfl)
  simp only [zzX3];refine wpAnyH_take (i:=13) (v:=?v13) rfl (by kernel_rfl) (by kernel_rfl) (by kernel_rfl) (fun _ _ _ h=>h) (Or.inl ⟨by rfl,?y13⟩) hHeld ?_
  case y13=>(intro w hSw;(try dsimp only at hSw);go_simp;try with_reducible rfl)
  simp only [zzX3];refine wpAnyH_take (i:=14) (v:=?v14) rfl (by kernel_rfl) (by kernel_rfl) (by kernel_rfl) (fun _ _ _ h=>h) (Or.inl ⟨by rfl,?y14⟩) hHeld ?_
  case y14=>(intro w hSw;(try dsimp only at hSw);go_simp;try with_reducible rfl)
  simp only [zzX3];refine wpAnyH_take (i:=15) (v:=?v15) rfl (by kernel_rfl) (by kernel_rfl) (by kernel_rfl) (fun _ _ _ h=>h) (Or.inl ⟨by rfl,?y15⟩) hHeld ?_
  case y15=>(intro w hSw;(try dsimp only at hSw);go_simp;try with_reducible rfl)
  simp only [zzX3];refine wpAnyH_take (i:=16) (v:=?v16) rfl (by kernel_rfl) (by kernel_rfl) (by kernel_rfl) (fun _ _ _ h=>h) (Or.inl ⟨by rfl,?y16⟩) hHeld ?_
  case y16=>(intro w hSw;(try dsimp only at hSw);go_simp;try with_reducible rfl)
  simp only [zzX3];refine wpAnyH_take (i:=17) (v:=?v17) rfl (by kernel_rfl) (by kernel_rfl) (by kernel_rfl) (fun _ _ _ h=>h) (Or.inl ⟨by rfl,?y17⟩) hHeld ?_
  case y17=>(intro w hSw;(try dsimp only at hSw);go_simp;try with_reducible rfl)
  simp only [zzX3];refine wpAnyH_take (i:=18) (v:=?v18) rfl (by kernel_rfl) (by kernel_rfl) (by kernel_rfl) (fun _ _ _ h=>h) (Or.inl ⟨by rfl,?y18⟩) hHeld ?_
  case y18=>(intro w hSw;(try dsimp only at hSw);go_simp;try with_reducible rfl)
  simp only [zzX3];refine wpAnyH_take (i:=19) (v:=?v19) rfl (by kernel_rfl) (by kernel_rfl) (by kernel_rfl) (fun _ _ _ h=>h) (Or.inl ⟨by rfl,?y19⟩) hHeld ?_
  case y19=>(intro w hSw;(try dsimp only at hSw);go_simp;try with_reducible rfl)
  simp only [zzX3];refine wpAnyH_take (i:=20) (v:=?v20) rfl (by kernel_rfl) (by kernel_rfl) (by kernel_rfl) (fun _ _ _ h=>h) (Or.inl ⟨by rfl,?y20⟩) hHeld ?_
  case y20=>(intro w hSw;(try dsimp only at hSw);go_simp;try with_reducible rfl)
  simp only [zzX3];refine wpAnyH_ready (rs:=[21]) (by kernel_rfl) (by simp) ?_;refine AllReadyH.cons rfl (fun K hK=>?_) AllReadyH.nil;simp only [List.getElem_toArray,List.getElem_cons_zero,List.getElem_cons_succ];go_simp;refine(HCL.out _ HDR.out).mono ?_;rintro e w5 ⟨rfl,hb5⟩;go_wp2_with fail;refine hK.out _ _ ⟨(hb5.cell (p:=⟨b,o+7,none⟩) hlt).trans c7,(hb5.cell (p:=⟨b,o+5,none⟩) hlt).trans c5⟩ (fun hHeld2=>?_);clear hK K hHeld
  try simp only [zzX3]
  refine wpAnyH_take (i:=22) (v:=?v22) rfl (by kernel_rfl) (by kernel_rfl) (by kernel_rfl) (fun _ _ _ h=>h) (Or.inl ⟨by rfl,?y22⟩) hHeld2 ?_
  case y22=>(intro w hSw;(try dsimp only at hSw);go_simp;try with_reducible rfl)
  simp only [zzX3];refine wpAnyH_take (i:=23) (v:=?v23) rfl (by kernel_rfl) (by kernel_rfl) (by kernel_rfl) (fun _ _ _ h=>h) (Or.inl ⟨by rfl,?y23⟩) hHeld2 ?_
  case y23=>(intro w hSw;(try dsimp only at hSw);go_simp;try with_reducible rfl)
  simp only [zzX3];refine wpAnyH_take (i:=24) (v:=?v24) rfl (by kernel_rfl) (by kernel_rfl) (by kernel_rfl) (fun _ _ _ h=>h) (Or.inl ⟨by rfl,?y24⟩) hHeld2 ?_
  case y24=>(intro w hSw;(try dsimp only at hSw);go_simp;try with_reducible rfl)
  simp only [zzX3];refine wpAnyH_done (by kernel_rfl) ?_ _;go_wp2;go_ret;exact⟨zn E0.out.symm,hb5⟩
theorem zmR (b o:Nat) (x:RIns) (so co go:zzA) (sc cc gc:Nat) (w:World) (hsp:SpaceAt w) (hx:IBox w b o x so co go sc cc gc) (hs:x.name.size<=140737488355328) (h13: ¬x.op=13) (h14: ¬x.op=14) (h15: ¬x.op=15):
  Calls Tryz.prog 72 #[.pointer (some ⟨b,o,none⟩)] w fun e w'=>e= .returned (.bool (zbh x))/\Below w.heap.size w w':=by
 have c0:=hx.c0;have c3:=hx.c3;have c5:=hx.c5;have c7:=hx.c7;have r2:=hx.rsrc;have hlt:=hx.lt;have hrn:=hx.rn;have hn1:I64 (x.src.length:Int):=by unfold I64;omega
 have E0:Hid (zbh x=true):=zzH (by unfold zbh;rw [if_neg h13,if_neg h14,if_neg h15]);have t13:(x.op==13)=false:=zzB.2 h13;have t14:(x.op==14)=false:=zzB.2 h14;have t15:(x.op==15)=false:=zzB.2 h15;clear h13 h14 h15 hx hsp;go_in;go_wp2;go_ret;exact⟨zn E0.out.symm,zzR _ _⟩
theorem zoM (b o:Nat) (x:RIns) (so co go:zzA) (sc cc gc:Nat) (w:World) (hsp:SpaceAt w) (hx:IBox w b o x so co go sc cc gc) (hs:x.name.size<=140737488355328):
  Calls Tryz.prog 72 #[.pointer (some ⟨b,o,none⟩)] w fun e w'=>e= .returned (.bool (zbh x))/\Below w.heap.size w w':=by
 by_cases h13:x.op=13
 ·exact zq0 b o x so co go sc cc gc w hsp hx hs h13
 by_cases h14:x.op=14
 ·exact zr0 b o x so co go sc cc gc w hsp hx hs h14
 by_cases h15:x.op=15
 ·exact zrg b o x so co go sc cc gc w hsp hx hs h15
 exact zmR b o x so co go sc cc gc w hsp hx hs h13 h14 h15
theorem zgY {w:World} {B:Nat} {e t:TypeId} {size:Nat} {v:Value} {n:Nat} {xs:List Value} {r:Nat} {cs:Array Value} {fr:Nat × Nat} (h:w.ownsRow B e size v n xs) (hb:w.heap[r]?=some (.cells cs t fr)) (hne:t≠e):v.ownBlock≠some r:=by
 intro hv;obtain⟨c,fz,hg⟩:=Lib.ownsRow_kind h r hv;rw [hb]at hg;injection hg with hg;injection hg with _ h2 _;exact hne h2
theorem WrAt.next {B r:Nat} {l:List UInt8} {w w':World} (h:WrAt B r l w) (hb:Below w.heap.size w w'):WrAt B r l w':=by
 obtain⟨h1,h2,bv,h3,h4,h5⟩:=h;exact⟨h1,zzY h2 hb.size,bv,(hb.block r (zc h3)).trans h3,h4.kept (row:=none) ⟨hb.os,hb.tape,hb.output,hb.size,fun k hk _=>hb.block k hk⟩ (by cases hv:bv.ownBlock<;>simp),h5⟩
def zD (s:ByteArray):List UInt8:=zf s.size++s.data.toList
theorem zv (n:Nat):(zf n).length<=10:=zjd 10 n
theorem zpc {B r:Nat} {l k:List UInt8} {w:World} {bv v':Value} (hBr:B<=r) (hBw:B<=w.heap.size) (hb:w.heap[r]?=some (.cells #[bv] 89 (0,0))) (ho:w.ownsRow B 5 1 v' (l.length+k.length) (zo l++zo k)) (hne:v'.ownBlock≠some r):
  WrAt B r (l++k) (w.setCell ⟨r,0,none⟩ v'):=by
 refine⟨hBr,by simpa [World.setCell] using hBw,v',?_,?_,hne⟩
 ·simp [World.setCell,hb,Array.getElem?_modify]
 ·exact zz77
theorem zf6 (B r:Nat) (l:List UInt8) (s:ByteArray) (w:World) (h:WrAt B r l w) (hs:s.size<=70368744177664) (hl:l.length<=70368744170000):
  Calls Tryz.prog 33 #[.pointer (some ⟨r,0,none⟩),.string s] w fun e w'=>e= .returned (.tuple #[])/\WrAt B r (l++zD s) w'/\Below B w w'/\Stays w w':=by
 obtain⟨i0,hi,hz0,hz1,hz2⟩:=info_parts zdw;have HL:=zzH (zv s.size);go_in;go_wp2_with (go_at_call 34;refine(zbt B r l (s.size:Int) _ h (by omega) (by omega) (by omega)).mono ?_);rintro e w1 ⟨rfl,h1,hb1,hst1⟩;rw [zzq16]at h1;obtain⟨hBr,hBw,bv,hbk,hown,hne⟩:=h1;have c0:w1.cell? ⟨r,0,none⟩=some bv:=by rw [zzq2 _ _ _ _ _ _ hbk];rfl
 have f0:w1.frozen? ⟨r,0,none⟩=false:=Lib.frozen_of_heap hbk 0;have hrl:=zc hbk;have hll:(l++zf s.size).length<=70368744177664:=by rw [zzq1];have:=HL.out;omega
 go_wp2_with (at_builtin;refine Lib.wpList_append_own_string _ rfl (.tmp 12) (.tmp 13) 65 9 rfl B 5 i0 Tryz.underlying65 Tryz.underlying9 hi hz0 hz1 hz2 bv (l++zf s.size).length (zo (l++zf s.size)) rfl hown s rfl (by unfold maxLen;omega) (by omega) hBw ?_);intro v' w2 hown' hgrow hnil
 have hbk1:w2.heap[r]?=some (.cells #[bv] 89 (0,0)):=by
  rw [hgrow.block r hrl (fun e=>hne e.symm)];exact hbk
 have k0:w2.cell? ⟨r,0,none⟩=some bv:=by rw [zzq2 _ _ _ _ _ _ hbk1];rfl
 have k1:w2.frozen? ⟨r,0,none⟩=false:=Lib.frozen_of_heap hbk1 0;have hB1:Below B w w2:=hb1.grown hgrow hBw (fun k hk=>(hown.lt k hk).1);have hne':v'.ownBlock≠some r:=zgY hown' hbk1 (by decide)
 have HW1:Hid (WrAt B r (l++zD s) (w2.setCell ⟨r,0,none⟩ v')):=zzH (by
  have ho2:w2.ownsRow B 5 1 v' ((l++zf s.size).length+s.data.toList.length) (zo (l++zf s.size)++zo s.data.toList):=by rw [zzq1];exact hown'
  have:=zpc hBr (zzY hBw hgrow.size) hbk1 ho2 hne';unfold zD;rwa [zzq4]at this)
 have HST1:Hid (Stays w (w2.setCell ⟨r,0,none⟩ v')):=zzH ((hst1.grown hown hgrow).store hbk1 v');clear hst1;obtain⟨ao',cap',rfl⟩:=zdm hown';clear hown hbk hgrow hown' hbk1;go_wp2_with fail;go_end0;exact⟨rfl,HW1.out,hB1.setCell (p:=⟨r,0,none⟩) hBr _,HST1.out⟩
def zde (b:Bool):List UInt8:=zf (if b then 1 else 0)
theorem zju (B r:Nat) (l:List UInt8) (b:Bool) (w:World) (h:WrAt B r l w) (hl:l.length<=70368744170000):
  Calls Tryz.prog 36 #[.pointer (some ⟨r,0,none⟩),.bool b] w fun e w'=>e= .returned (.tuple #[])/\WrAt B r (l++zde b) w'/\Below B w w'/\Stays w w':=by
 cases b
 ·go_in
  go_wp2_with (go_at_call 34;refine(zbt B r l 0 _ h (by omega) (by omega) (by omega)).mono ?_);rintro e w1 ⟨rfl,h1,hb1,hst1⟩;go_wp2_with fail;go_end0;exact⟨rfl,h1,hb1,hst1⟩
 ·go_in
  go_wp2_with (go_at_call 34;refine(zbt B r l 1 _ h (by omega) (by omega) (by omega)).mono ?_);rintro e w1 ⟨rfl,h1,hb1,hst1⟩;go_wp2_with fail;go_end0;exact⟨rfl,h1,hb1,hst1⟩
def zbG (a:RArg):List UInt8:=zf (4*a.n+a.kind).toNat
theorem zgM (B r:Nat) (l:List UInt8) (a:RArg) (w:World) (h:WrAt B r l w) (hl:l.length<=70368744170000) (h0:0<=a.n) (h1:a.n<=1000000000000) (h2:0<=a.kind) (h3:a.kind<=3):
  Calls Tryz.prog 78 #[.pointer (some ⟨r,0,none⟩),.agg #[.int .i64 a.kind,.int .i64 a.n]] w fun e w'=>e= .returned (.tuple #[])/\WrAt B r (l++zbG a) w'/\Below B w w'/\Stays w w':=by
 obtain⟨ak,an⟩:=a;simp only at *;have HA:Hid (zbG ⟨ak,an⟩=zf (4*an+ak).toNat):=zzH rfl;have HB:=zzH h.2.1;go_in;have hA: ∀(o:Obj),WrAt B r l (w.alloc o):=fun o=>h.next (zzE _ _)
 go_wp2_with (go_at_call 34;refine(zbt B r l (4*an+ak) _ (hA _) (by omega) (by omega) (by omega)).mono ?_);rintro e w1 ⟨rfl,h1,hb1,hst1⟩;go_wp2_with fail;go_end0;exact⟨rfl,by rw [HA.out];exact h1,((zzR _ _).alloc HB.out _).trans hb1,((Stays.refl w).alloc _).trans hst1⟩
def zcV (l:List RArg):List UInt8:=l.flatMap zbG
def zfq (c:RCase):List UInt8:=zf c.lit.toNat++zf c.to.toNat
def zba (l:List RCase):List UInt8:=l.flatMap zfq
def zgD (g:RSeg):List UInt8:=zf g.type.toNat++(zbG g.val++(zbG g.size++zde g.little))
def zX (l:List RSeg):List UInt8:=l.flatMap zgD
def opt (b:Bool) (l:List UInt8):List UInt8:=if b=true then l else []
def zd7 (h:Nat) (x:RIns):List UInt8:=
 zf x.op.toNat++(opt (zm h 1) (zbG x.dst)++(opt (zm h 2) (zf x.src.length++zcV x.src)++(opt (zm h 4) (zf x.n.toNat)++(opt (zm h 8) (zD x.name) ++
  (opt (zm h 16) (zf x.cases.length++zba x.cases)++(opt (zm h 32) (zf x.segs.length++zX x.segs)++(opt (zm h 64) (zf x.to.toNat)++opt (zm h 128) (zf x.live.toNat))))))))
structure WArg (a:RArg):Prop where
 n0:0<=a.n
 n1:a.n<=1000000
 k0:0<=a.kind
 k1:a.kind<=3
structure WIns (h:Nat) (x:RIns):Prop where
 op0:0<=x.op
 op1:x.op<=1000
 dst:zm h 1=true->WArg x.dst
 src: ∀a∈x.src,WArg a
 srcLen:x.src.length<=1000
 n0:0<=x.n
 n1:x.n<=1000000
 name:x.name.size<=1000
 cases: ∀c∈x.cases,0<=c.lit/\c.lit<=1000000/\0<=c.to/\c.to<=1000000
 casesLen:x.cases.length<=1000
 segs: ∀g∈x.segs,0<=g.type/\g.type<=1000/\WArg g.val/\WArg g.size
 segsLen:x.segs.length<=1000
 to0:0<=x.to
 to1:x.to<=1000000
 live0:0<=x.live
 live1:x.live<=1000000
theorem zcW (a:RArg):(zbG a).length<=10:=zv _
theorem zeM (b:Bool):(zde b).length<=10:=zv _
theorem zpG (c:RCase):(zfq c).length<=20:=by have:=zv c.lit.toNat;have:=zv c.to.toNat;unfold zfq;simp;omega
theorem zqZ (g:RSeg):(zgD g).length<=40:=by
 have:=zv g.type.toNat;have:=zcW g.val;have:=zcW g.size;have:=zeM g.little;unfold zgD;simp;omega
theorem zec {α:Type} (f:α->List UInt8) (m:Nat): ∀(l:List α),(∀a∈l,(f a).length<=m)->(l.flatMap f).length<=m*l.length
 |[],_=>by simp
 |a::l,h=>by
  have h1:=h a zzg;have h2:=zec f m l (fun b hb=>h b (zzh _ hb));simp only [List.flatMap_cons,zzq1,zzq18];rw [Nat.mul_add];omega
theorem zq9 (l:List RArg):(zcV l).length<=10*l.length:=zec _ _ _ fun a _=>zcW a
theorem zmF (l:List RCase):(zba l).length<=20*l.length:=zec _ _ _ fun a _=>zpG a
theorem zpM (l:List RSeg):(zX l).length<=40*l.length:=zec _ _ _ fun a _=>zqZ a
theorem zeL (b:Bool) (l:List UInt8):(opt b l).length<=l.length:=by unfold opt;split<;>simp
theorem zcC (s:ByteArray):(zD s).length<=10+s.size:=by
 have:=zv s.size;unfold zD;simp only [zzq1,Array.length_toList];show _+s.size<=_;omega
theorem zgx {h:Nat} {x:RIns} (w:WIns h x):(zd7 h x).length<=100000:=by
 have a1:=zv x.op.toNat;have a2:=zzY (zeL (zm h 1) (zbG x.dst)) (zcW _);have a3:=zeL (zm h 2) (zf x.src.length++zcV x.src);have b3:=zv x.src.length;have c3:=zq9 x.src;have d3:=w.srcLen;have a4:=zzY (zeL (zm h 4) (zf x.n.toNat)) (zv _);have a5:=zzY (zeL (zm h 8) (zD x.name)) (zcC _);have b5:=w.name;have a6:=zeL (zm h 16) (zf x.cases.length++zba x.cases);have b6:=zv x.cases.length;have c6:=zmF x.cases;have d6:=w.casesLen;have a7:=zeL (zm h 32) (zf x.segs.length++zX x.segs);have b7:=zv x.segs.length;have c7:=zpM x.segs;have d7:=w.segsLen;have a8:=zzY (zeL (zm h 64) (zf x.to.toNat)) (zv _);have a9:=zzY (zeL (zm h 128) (zf x.live.toNat)) (zv _);rw [zzq1]at a3 a6 a7;unfold zd7;simp only [zzq1];omega
def zbY (f:RFunc):List UInt8:=zD f.name++(zf f.arity.toNat++(zde f.pub++zf f.entry.toNat))
def zbW (f:RFun):List UInt8:=zf f.arity.toNat++(zf f.free.toNat++zf f.entry.toNat)
theorem zoE (f:RFunc):(zbY f).length<=40+f.name.size:=by
 have:=zcC f.name;have:=zv f.arity.toNat;have:=zeM f.pub;have:=zv f.entry.toNat;unfold zbY;simp only [zzq1];omega
theorem zrl (f:RFun):(zbW f).length<=30:=by
 have:=zv f.arity.toNat;have:=zv f.free.toNat;have:=zv f.entry.toNat;unfold zbW;simp only [zzq1];omega
def XBox (w:World) (X:Nat) (x:RIns) (so co' go':Option Addr) (sc cc' gc':Nat):Prop:=w.heap[X]?=some (.cells #[.int .i64 x.op,.int .i64 x.dst.kind,.int .i64 x.dst.n,.slice so x.src.length sc,.int .i64 x.to,.int .i64 x.n,.int .i64 x.live,.string x.name,.slice co' x.cases.length cc',.slice go' x.segs.length gc'] 36 (0,0))
section
variable {w:World} {X:Nat} {x:RIns} {so co' go':Option Addr} {sc cc' gc':Nat}
theorem XBox.lt (h:XBox w X x so co' go' sc cc' gc'):X<w.heap.size:=zc h
theorem XBox.below {w':World} (h:XBox w X x so co' go' sc cc' gc') (hb:Below w.heap.size w w'):XBox w' X x so co' go' sc cc' gc':=(hb.block X (zc h)).trans h
theorem XBox.c0 (h:XBox w X x so co' go' sc cc' gc'):w.cell? ⟨X,0,none⟩=some (.int .i64 x.op):=by rw [zzq2 _ _ _ _ _ _ h];rfl
theorem XBox.c1 (h:XBox w X x so co' go' sc cc' gc'):w.cell? ⟨X,1,none⟩=some (.int .i64 x.dst.kind):=by rw [zzq2 _ _ _ _ _ _ h];rfl
theorem XBox.c2 (h:XBox w X x so co' go' sc cc' gc'):w.cell? ⟨X,2,none⟩=some (.int .i64 x.dst.n):=by rw [zzq2 _ _ _ _ _ _ h];rfl
theorem XBox.c3 (h:XBox w X x so co' go' sc cc' gc'):w.cell? ⟨X,3,none⟩=some (.slice so x.src.length sc):=by rw [zzq2 _ _ _ _ _ _ h];rfl
theorem XBox.c4 (h:XBox w X x so co' go' sc cc' gc'):w.cell? ⟨X,4,none⟩=some (.int .i64 x.to):=by rw [zzq2 _ _ _ _ _ _ h];rfl
theorem XBox.c5 (h:XBox w X x so co' go' sc cc' gc'):w.cell? ⟨X,5,none⟩=some (.int .i64 x.n):=by rw [zzq2 _ _ _ _ _ _ h];rfl
theorem XBox.c6 (h:XBox w X x so co' go' sc cc' gc'):w.cell? ⟨X,6,none⟩=some (.int .i64 x.live):=by rw [zzq2 _ _ _ _ _ _ h];rfl
theorem XBox.c7 (h:XBox w X x so co' go' sc cc' gc'):w.cell? ⟨X,7,none⟩=some (.string x.name):=by rw [zzq2 _ _ _ _ _ _ h];rfl
theorem XBox.c8 (h:XBox w X x so co' go' sc cc' gc'):w.cell? ⟨X,8,none⟩=some (.slice co' x.cases.length cc'):=by rw [zzq2 _ _ _ _ _ _ h];rfl
theorem XBox.c9 (h:XBox w X x so co' go' sc cc' gc'):w.cell? ⟨X,9,none⟩=some (.slice go' x.segs.length gc'):=by rw [zzq2 _ _ _ _ _ _ h];rfl
end
theorem zbC (w:World) (u:RUnit) (lo fo go co:zzA) (lc fc gc cc:Nat) (x:RIns) (so co' go':zzA) (sc cc' gc':Nat):UBox ((w.alloc (.cells #[.string u.mdl,.int .i64 u.vsn,.slice lo u.lits.length lc,.slice fo u.funcs.length fc,.slice go u.funs.length gc,.slice co u.code.length cc] 27)).alloc (.cells #[.int .i64 x.op,.int .i64 x.dst.kind,.int .i64 x.dst.n,.slice so x.src.length sc,.int .i64 x.to,.int .i64 x.n,.int .i64 x.live,.string x.name,.slice co' x.cases.length cc',.slice go' x.segs.length gc'] 36)) w.heap.size u lo fo go co lc fc gc cc/\XBox ((w.alloc (.cells #[.string u.mdl,.int .i64 u.vsn,.slice lo u.lits.length lc,.slice fo u.funcs.length fc,.slice go u.funs.length gc,.slice co u.code.length cc] 27)).alloc (.cells #[.int .i64 x.op,.int .i64 x.dst.kind,.int .i64 x.dst.n,.slice so x.src.length sc,.int .i64 x.to,.int .i64 x.n,.int .i64 x.live,.string x.name,.slice co' x.cases.length cc',.slice go' x.segs.length gc'] 36)) (w.heap.size+1) x so co' go' sc cc' gc'/\Below w.heap.size w ((w.alloc (.cells #[.string u.mdl,.int .i64 u.vsn,.slice lo u.lits.length lc,.slice fo u.funcs.length fc,.slice go u.funs.length gc,.slice co u.code.length cc] 27)).alloc (.cells #[.int .i64 x.op,.int .i64 x.dst.kind,.int .i64 x.dst.n,.slice so x.src.length sc,.int .i64 x.to,.int .i64 x.n,.int .i64 x.live,.string x.name,.slice co' x.cases.length cc',.slice go' x.segs.length gc'] 36)):=by
 have s:(w.alloc (.cells (zzu u lo lc fo fc go gc co cc) 27)).heap.size=w.heap.size+1:=by simp
 refine⟨⟨(Below.heap_alloc _ _ _ (by rw [s];omega)).trans (zzF _ _)⟩,?_,(zzE _ _).alloc (by rw [s];omega) _⟩;unfold XBox;rw [<-s];exact zzF _ _
theorem zK (n a b:Int) (w:World):Calls Tryz.prog 122 #[.int .i64 n,.int .i64 a,.int .i64 b] w fun e w'=>e= .returned (.bool (wi n a b))/\w=w':=by
 exact zz141
def zdL (a:RArg):Bool:=decide (a.kind=0)&&decide (a.n=0)
theorem zhp (a:RArg) (w:World):Calls Tryz.prog 127 #[.agg #[.int .i64 a.kind,.int .i64 a.n]] w fun e w'=>e= .returned (.bool (zdL a))/\Below w.heap.size w w':=by
 obtain⟨k,n⟩:=a;have HB:=zzH ((zzR w.heap.size w).alloc (zzL _) (.cells #[.int .i64 k,.int .i64 n] 31));by_cases h:k=0
 ·by_cases h':n=0
  ·subst h;subst h'
   have E:Hid (zdL ⟨0,0⟩=true):=zzH rfl;exact zz155
  ·subst h
   have E:Hid (zdL ⟨0,n⟩=false):=zzH (by unfold zdL;simp [h']);have t:(n==0)=false:=zzB.2 h';clear h';exact zz155
 ·have E:Hid (zdL ⟨k,n⟩=false):=zzH (by unfold zdL;simp [h])
  have t:(k==0)=false:=zzB.2 h;clear h;exact zz155
theorem zeU (u:RUnit) (lo fo go co:zzA) (lc fc gc cc:Nat) (a:RArg) (w:World) (hl:u.lits.length<=9223372036854775807) (ha:I64 a.kind/\I64 a.n):
  Calls Tryz.prog 126 #[.agg (zzu u lo lc fo fc go gc co cc),.agg #[.int .i64 a.kind,.int .i64 a.n]] w fun e w'=>e= .returned (.bool (zbi u.lits.length a))/\Below w.heap.size w w':=by
 unfold zzu;obtain⟨⟨x1,x2⟩,⟨y1,y2⟩⟩:=ha;obtain⟨ak,an⟩:=a;simp only at x1 x2 y1 y2;have HB:Hid (Below w.heap.size w ((w.alloc (.cells (zzu u lo lc fo fc go gc co cc) 27)).alloc (.cells #[.int .i64 ak,.int .i64 an] 31))):=zzH ((zzE _ _).alloc (by simp) _);by_cases k1:ak=1
 ·subst k1
  by_cases h0:0<=an
  ·by_cases h1:an<256
   ·have E:Hid (zbi u.lits.length ⟨1,an⟩=true):=zzH (zev (n:=an) h0 (by omega))
    exact zz142
   ·exact zz156
  ·exact zz156
 ·by_cases k2:ak=2
  ·subst k2
   clear k1;by_cases h0:0<=an
   ·by_cases h1:an<8192
    ·have E:Hid (zbi u.lits.length ⟨2,an⟩=true):=zzH (zev (n:=an) h0 (by omega))
     exact zz142
    ·exact zz157
   ·exact zz157
  ·by_cases k3:ak=3
   ·subst k3
    clear k1 k2;by_cases h0:0<=an
    ·by_cases h1:an<(u.lits.length:Int)
     ·have E:Hid (zbi u.lits.length ⟨3,an⟩=true):=zzH (zev (n:=an) h0 (by omega))
      exact zz142
     ·exact zz158
    ·exact zz158
   ·have E:Hid (zbi u.lits.length ⟨ak,an⟩=false):=zzH (by unfold zbi;rw [if_neg k1,if_neg k2,if_neg k3])
    have t1:(ak==1)=false:=zzB.2 k1;have t2:(ak==2)=false:=zzB.2 k2;have t3:(ak==3)=false:=zzB.2 k3;clear k1 k2 k3;exact zz142
theorem zgg (s:ByteArray) (n:Int) (w:World):Calls Tryz.prog 129 #[.string s,.int .i64 n] w fun e w'=>e= .returned (.bool (zN s n))/\w=w':=by
 have HQ:=zzH (zrT s n);generalize zN s n=r at *;by_cases h1:n=1
 ·subst h1
  rw [if_pos rfl]at HQ
  cases t0:(s.toList== [45])with
  |true=>
   rw [t0]at HQ;exact zz159
  |false=>
   cases t1:(s.toList== [98,110,111,116])with
   |true=>
    rw [t0,t1]at HQ;exact zz159
   |false=>
    rw [t0,t1]at HQ;have E:Hid (r=(s.toList== [110,111,116])):=zzH (by rw [HQ.out];rfl);exact zz58
 ·rw [if_neg h1]at HQ
  have q1:(n==1)=false:=zzB.2 h1;by_cases h2:n=2
  ·subst h2
   rw [if_pos rfl]at HQ
   have HL:Hid (r=((s.toList== [43])||(s.toList== [45])||(s.toList== [42])||(s.toList== [100,105,118])||(s.toList== [114,101,109])||(s.toList== [98,97,110,100])||(s.toList== [98,111,114])||(s.toList== [98,120,111,114])||(s.toList== [98,115,108])||(s.toList== [98,115,114])||(s.toList== [97,110,100])||(s.toList== [111,114])||(s.toList== [120,111,114])||(s.toList== [43,43])||(s.toList== [61,58,61])||(s.toList== [61,47,61])||(s.toList== [60])||(s.toList== [61,60])||(s.toList== [62])||(s.toList== [62,61]))):=zzH (by
    rw [HQ.out];unfold opTwo;simp only [List.any_cons,List.any_nil];generalize(s.toList== [45])=b0;generalize(s.toList== [43])=b1;generalize(s.toList== [42])=b2;generalize(s.toList== [100,105,118])=b3;generalize(s.toList== [114,101,109])=b4;generalize(s.toList== [98,97,110,100])=b5;generalize(s.toList== [98,111,114])=b6;generalize(s.toList== [98,120,111,114])=b7;generalize(s.toList== [98,115,108])=b8;generalize(s.toList== [98,115,114])=b9;generalize(s.toList== [97,110,100])=b10;generalize(s.toList== [111,114])=b11;generalize(s.toList== [120,111,114])=b12;generalize(s.toList== [61,58,61])=b13;generalize(s.toList== [61,47,61])=b14;generalize(s.toList== [60])=b15;generalize(s.toList== [61,60])=b16;generalize(s.toList== [62])=b17;generalize(s.toList== [62,61])=b18;generalize(s.toList== [43,43])=b19
    cases b0<;>simp only [zzq13,zzq9,zzq12,zzq19]<;>(first|rfl|ac_rfl))
   clear h1 HQ
   cases t0:(s.toList== [43])with
   |true=>
    have E:Hid (r=true):=zzH (by rw [HL.out];simp only [t0,zzq9,zzq13,zzq12]);exact zz58
   |false=>
    cases t1:(s.toList== [45])with
    |true=>
      have E:Hid (r=true):=zzH (by rw [HL.out];simp only [t0,t1,zzq9,zzq13,zzq12]);exact zz58
    |false=>
    cases t2:(s.toList== [42])with
    |true=>
     have E:Hid (r=true):=zzH (by rw [HL.out];simp only [t0,t1,t2,zzq9,zzq13,zzq12]);exact zz58
    |false=>
     cases t3:(s.toList== [100,105,118])with
     |true=>
       have E:Hid (r=true):=zzH (by rw [HL.out];simp only [t0,t1,t2,t3,zzq9,zzq13,zzq12]);exact zz58
     |false=>
     cases t4:(s.toList== [114,101,109])with
     |true=>
      have E:Hid (r=true):=zzH (by rw [HL.out];simp only [t0,t1,t2,t3,t4,zzq9,zzq13,zzq12]);exact zz58
     |false=>
      cases t5:(s.toList== [98,97,110,100])with
      |true=>
        have E:Hid (r=true):=zzH (by rw [HL.out];simp only [t0,t1,t2,t3,t4,t5,zzq9,zzq13,zzq12]);exact zz58
      |false=>
      cases t6:(s.toList== [98,111,114])with
      |true=>
       have E:Hid (r=true):=zzH (by rw [HL.out];simp only [t0,t1,t2,t3,t4,t5,t6,zzq9,zzq13,zzq12]);exact zz58
      |false=>
       cases t7:(s.toList== [98,120,111,114])with
       |true=>
         have E:Hid (r=true):=zzH (by rw [HL.out];simp only [t0,t1,t2,t3,t4,t5,t6,t7,zzq9,zzq13,zzq12]);exact zz58
       |false=>
       cases t8:(s.toList== [98,115,108])with
       |true=>
        have E:Hid (r=true):=zzH (by rw [HL.out];simp only [t0,t1,t2,t3,t4,t5,t6,t7,t8,zzq9,zzq13,zzq12]);exact zz58
       |false=>
        cases t9:(s.toList== [98,115,114])with
        |true=>
          have E:Hid (r=true):=zzH (by rw [HL.out];simp only [t0,t1,t2,t3,t4,t5,t6,t7,t8,t9,zzq9,zzq13,zzq12]);exact zz58
        |false=>
        cases t10:(s.toList== [97,110,100])with
        |true=>
         have E:Hid (r=true):=zzH (by rw [HL.out];simp only [t0,t1,t2,t3,t4,t5,t6,t7,t8,t9,t10,zzq9,zzq13,zzq12]);exact zz58
        |false=>
         cases t11:(s.toList== [111,114])with
         |true=>
           have E:Hid (r=true):=zzH (by rw [HL.out];simp only [t0,t1,t2,t3,t4,t5,t6,t7,t8,t9,t10,t11,zzq9,zzq13,zzq12]);exact zz58
         |false=>
         cases t12:(s.toList== [120,111,114])with
         |true=>
          have E:Hid (r=true):=zzH (by rw [HL.out];simp only [t0,t1,t2,t3,t4,t5,t6,t7,t8,t9,t10,t11,t12,zzq9,zzq13,zzq12]);exact zz58
         |false=>
          cases t13:(s.toList== [43,43])with
          |true=>
            have E:Hid (r=true):=zzH (by rw [HL.out];simp only [t0,t1,t2,t3,t4,t5,t6,t7,t8,t9,t10,t11,t12,t13,zzq9,zzq13,zzq12]);exact zz58
          |false=>
          cases t14:(s.toList== [61,58,61])with
          |true=>
           have E:Hid (r=true):=zzH (by rw [HL.out];simp only [t0,t1,t2,t3,t4,t5,t6,t7,t8,t9,t10,t11,t12,t13,t14,zzq9,zzq13,zzq12]);exact zz58
          |false=>
           cases t15:(s.toList== [61,47,61])with
           |true=>
             have E:Hid (r=true):=zzH (by rw [HL.out];simp only [t0,t1,t2,t3,t4,t5,t6,t7,t8,t9,t10,t11,t12,t13,t14,t15,zzq9,zzq13,zzq12]);exact zz58
           |false=>
           cases t16:(s.toList== [60])with
           |true=>
            have E:Hid (r=true):=zzH (by rw [HL.out];simp only [t0,t1,t2,t3,t4,t5,t6,t7,t8,t9,t10,t11,t12,t13,t14,t15,t16,zzq9,zzq13,zzq12]);exact zz58
           |false=>
            cases t17:(s.toList== [61,60])with
            |true=>
              have E:Hid (r=true):=zzH (by rw [HL.out];simp only [t0,t1,t2,t3,t4,t5,t6,t7,t8,t9,t10,t11,t12,t13,t14,t15,t16,t17,zzq9,zzq13,zzq12]);exact zz58
            |false=>
            cases t18:(s.toList== [62])with
            |true=>
             have E:Hid (r=true):=zzH (by rw [HL.out];simp only [t0,t1,t2,t3,t4,t5,t6,t7,t8,t9,t10,t11,t12,t13,t14,t15,t16,t17,t18,zzq9,zzq13,zzq12]);exact zz58
            |false=>
             cases t19:(s.toList== [62,61])with
             |true=>
               have E:Hid (r=true):=zzH (by rw [HL.out];simp only [t0,t1,t2,t3,t4,t5,t6,t7,t8,t9,t10,t11,t12,t13,t14,t15,t16,t17,t18,t19,zzq9,zzq13,zzq12]);exact zz58
             |false=>
             have E:Hid (r=false):=zzH (by rw [HL.out];simp only [t0,t1,t2,t3,t4,t5,t6,t7,t8,t9,t10,t11,t12,t13,t14,t15,t16,t17,t18,t19,zzq9]);exact zz58
  ·have q2 : (n != 2) = true := by rw [bne_iff_ne]; exact h2
   rw [if_neg h2]at HQ;have E:Hid (r=false):=zzH HQ.out;clear h1 h2;exact zz58
structure RRow where
 a:Bool
 b:Bool
 c:Bool
 d:Bool
 e:Bool
 f:Bool
 g:Bool
 h:Bool
 lo:Int
 hi:Int
def RRow.val (r:RRow):Array Value:=#[.bool r.a,.bool r.b,.bool r.c,.bool r.d,.bool r.e,.bool r.f,.bool r.g,.bool r.h,.int .i64 r.lo,.int .i64 r.hi]
theorem RRow.one (r:RRow):r.val.all (·.oneCell')=true:=by
 simp [RRow.val,Value.oneCell']
def zfT (l:List UInt8) (c:UInt8):Bool:=l.any (fun x=>x==c)
def zbe (l:List UInt8) (lo hi:Int):RRow:=⟨zfT l 100,zfT l 115,zfT l 110,zfT l 119,zfT l 99,zfT l 103,zfT l 116,zfT l 108,lo,hi⟩
theorem zdH (l:List UInt8) {k:Nat} (h:k<l.length) (c:UInt8):zfT (l.take (k+1)) c=(zfT (l.take k) c||(l[k]==c)):=by
 unfold zfT;rw [List.take_add_one,zzq11 h,List.any_append];simp
theorem zeJ (x:UInt8) (c:Nat) (hc:c<256):(x==UInt8.ofNat c)=((x.toNat:Int)==(c:Int)):=by
 rw [Bool.eq_iff_iff,beq_iff_eq,beq_iff_eq];constructor
 ·intro h;rw [h,UInt8.toNat_ofNat'];omega
 ·intro h;exact UInt8.toNat_inj.1 (by rw [UInt8.toNat_ofNat'];omega)
theorem zll (s:ByteArray) (lo hi:Int) (w:World) (hs:s.size<=1000):
  Calls Tryz.prog 124 #[.string s,.int .i64 lo,.int .i64 hi] w fun e w'=>e= .returned (.agg (zbe s.data.toList lo hi).val)/\Below w.heap.size w w':=by
 have HE:Hid (zbe s.data.toList lo hi=zbe (s.data.toList.take s.size) lo hi):=zzH (by rw [List.take_of_length_le (by simp)]);have HB:=zzH (zzR w.heap.size w);go_in;go_upto_region 2 with fail;have hR:=zzF (w.alloc (.cells #[.bool false,.bool false,.bool false,.bool false,.bool false,.bool false,.bool false,.bool false,.int .i64 0,.int .i64 0] 148)) (.cells #[.bool false,.bool false,.bool false,.bool false,.bool false,.bool false,.bool false,.bool false,.int .i64 lo,.int .i64 hi] 148);have hbe:Below w.heap.size w ((w.alloc (.cells #[.bool false,.bool false,.bool false,.bool false,.bool false,.bool false,.bool false,.bool false,.int .i64 0,.int .i64 0] 148)).alloc (.cells #[.bool false,.bool false,.bool false,.bool false,.bool false,.bool false,.bool false,.bool false,.int .i64 lo,.int .i64 hi] 148)):=(zzE _ _).alloc (by simp) _;have hsz:(w.alloc (.cells #[.bool false,.bool false,.bool false,.bool false,.bool false,.bool false,.bool false,.bool false,.int .i64 0,.int .i64 0] 148)).heap.size=w.heap.size+1:=by simp
 rw [hsz]at hR;have h0:((w.alloc (.cells #[.bool false,.bool false,.bool false,.bool false,.bool false,.bool false,.bool false,.bool false,.int .i64 0,.int .i64 0] 148)).alloc (.cells #[.bool false,.bool false,.bool false,.bool false,.bool false,.bool false,.bool false,.bool false,.int .i64 lo,.int .i64 hi] 148)).heap[w.heap.size]?=some (.cells #[.bool false,.bool false,.bool false,.bool false,.bool false,.bool false,.bool false,.bool false,.int .i64 0,.int .i64 0] 148 (0,0)):=(Below.heap_alloc _ _ _ (by simp)).trans (zzF _ _)
 generalize(w.alloc (.cells #[.bool false,.bool false,.bool false,.bool false,.bool false,.bool false,.bool false,.bool false,.int .i64 0,.int .i64 0] 148)).alloc (.cells #[.bool false,.bool false,.bool false,.bool false,.bool false,.bool false,.bool false,.bool false,.int .i64 lo,.int .i64 hi] 148)=Wa at *;generalize hB0:w.heap.size=B at *;refine zzK4 hB0 hbe hR h0 fun HBE HBA HR H0=>?_;clear hB0 hbe hR hsz h0 HB;go_wp2_with fail;go_loopw [8] (fun iv wr=> ∃(k:Nat) (r:RRow),k<=s.size/\iv= .int .i64 k/\Hid (r=zbe (s.data.toList.take k) lo hi)/\Hid (wr.heap[B+1]?=some (.cells r.val 148 (0,0)))/\Hid (wr.heap[B]?=some (.cells #[.bool false,.bool false,.bool false,.bool false,.bool false,.bool false,.bool false,.bool false,.int .i64 0,.int .i64 0] 148 (0,0)))/\Hid (Below B w wr)) (fun iv _=>s.size-(intOf iv).toNat)
 case atStart=>exact⟨0,⟨false,false,false,false,false,false,false,false,lo,hi⟩,zzZ _,rfl,zzH rfl,HR,H0,HBA⟩
 case round=>
  obtain⟨k,r,hk,rfl,HRW,HRk,H0k,HBk⟩:=hrel;rename World=>wr
  obtain⟨A0,A1,A2,A3,A4,A5,A6,A7,lo',hi'⟩:=r;obtain⟨rfl,rfl⟩:lo'=lo/\hi'=hi:=by have:=HRW.out;unfold zbe at this;injection this with _ _ _ _ _ _ _ _ e1 e2;exact⟨e1,e2⟩
  by_cases hlt:k<s.size
  ·have hkl:k<s.data.toList.length:=by simpa using hlt
   have HST:Hid (zbe (s.data.toList.take (k+1)) lo' hi'=⟨A0||(s.data.toList[k]==100),A1||(s.data.toList[k]==115),A2||(s.data.toList[k]==110),A3||(s.data.toList[k]==119),A4||(s.data.toList[k]==99),A5||(s.data.toList[k]==103),A6||(s.data.toList[k]==116),A7||(s.data.toList[k]==108),lo',hi'⟩):=zzH (by
    have:=HRW.out;unfold zbe at this ⊢;injection this with e0 e1 e2 e3 e4 e5 e6 e7;rw [zdH _ hkl,zdH _ hkl,zdH _ hkl,zdH _ hkl,zdH _ hkl,zdH _ hkl,zdH _ hkl,zdH _ hkl,<-e0,<-e1,<-e2,<-e3,<-e4,<-e5,<-e6,<-e7])
   have hsk:s.data.toList[k]=s[k]:=by rw [Array.getElem_toList];rfl
   rw [hsk]at HST;clear HRW hsk;have y0:=zeJ s[k] 100 (by decide);have y1:=zeJ s[k] 115 (by decide);have y2:=zeJ s[k] 110 (by decide);have y3:=zeJ s[k] 119 (by decide);have y4:=zeJ s[k] 99 (by decide);have y5:=zeJ s[k] 103 (by decide);have y6:=zeJ s[k] 116 (by decide);have y7:=zeJ s[k] 108 (by decide);rw [show(UInt8.ofNat 100)=(100:UInt8)from rfl]at y0;rw [y0]at HST;clear y0;rw [show(UInt8.ofNat 115)=(115:UInt8)from rfl]at y1;rw [y1]at HST;clear y1;rw [show(UInt8.ofNat 110)=(110:UInt8)from rfl]at y2;rw [y2]at HST;clear y2;rw [show(UInt8.ofNat 119)=(119:UInt8)from rfl]at y3;rw [y3]at HST;clear y3;rw [show(UInt8.ofNat 99)=(99:UInt8)from rfl]at y4;rw [y4]at HST;clear y4;rw [show(UInt8.ofNat 103)=(103:UInt8)from rfl]at y5;rw [y5]at HST;clear y5;rw [show(UInt8.ofNat 116)=(116:UInt8)from rfl]at y6;rw [y6]at HST;clear y6;rw [show(UInt8.ofNat 108)=(108:UInt8)from rfl]at y7;rw [y7]at HST;clear y7;rw [show(((s[k].toNat:Nat):Int)==((100:Nat):Int))=((s[k].toNat:Int)==100+0)from rfl]at HST;rw [show((s[k].toNat:Int)==100+0)=((s[k].toNat:Int)==100)from rfl]at HST;generalize het0:((s[k].toNat:Int)==100)=t0 at *;rw [show(((s[k].toNat:Nat):Int)==((115:Nat):Int))=((s[k].toNat:Int)==100+15)from rfl]at HST;rw [show((s[k].toNat:Int)==100+15)=((s[k].toNat:Int)==115)from rfl]at HST;generalize het1:((s[k].toNat:Int)==115)=t1 at *;rw [show(((s[k].toNat:Nat):Int)==((110:Nat):Int))=((s[k].toNat:Int)==100+10)from rfl]at HST;rw [show((s[k].toNat:Int)==100+10)=((s[k].toNat:Int)==110)from rfl]at HST;generalize het2:((s[k].toNat:Int)==110)=t2 at *;rw [show(((s[k].toNat:Nat):Int)==((119:Nat):Int))=((s[k].toNat:Int)==100+19)from rfl]at HST;rw [show((s[k].toNat:Int)==100+19)=((s[k].toNat:Int)==119)from rfl]at HST;generalize het3:((s[k].toNat:Int)==119)=t3 at *;rw [show(((s[k].toNat:Nat):Int)==((99:Nat):Int))=((s[k].toNat:Int)==100+ -1)from rfl]at HST;rw [show((s[k].toNat:Int)==100+ -1)=((s[k].toNat:Int)==99)from rfl]at HST;generalize het4:((s[k].toNat:Int)==99)=t4 at *;rw [show(((s[k].toNat:Nat):Int)==((103:Nat):Int))=((s[k].toNat:Int)==100+3)from rfl]at HST;rw [show((s[k].toNat:Int)==100+3)=((s[k].toNat:Int)==103)from rfl]at HST;generalize het5:((s[k].toNat:Int)==103)=t5 at *;rw [show(((s[k].toNat:Nat):Int)==((116:Nat):Int))=((s[k].toNat:Int)==100+16)from rfl]at HST;rw [show((s[k].toNat:Int)==100+16)=((s[k].toNat:Int)==116)from rfl]at HST;generalize het6:((s[k].toNat:Int)==116)=t6 at *;rw [show(((s[k].toNat:Nat):Int)==((108:Nat):Int))=((s[k].toNat:Int)==100+8)from rfl]at HST;rw [show((s[k].toNat:Int)==100+8)=((s[k].toNat:Int)==108)from rfl]at HST;generalize het7:((s[k].toNat:Int)==108)=t7 at *;go_upto_region 5 with fail;have g0:wr.cell? ⟨B+1,0,none⟩=some (.bool A0):=by rw [zzq2 _ _ _ _ _ _ HRk.out];rfl
   have hrl:=zc HRk.out;have hfz:wr.frozen? ⟨B+1,0,none⟩=false:=Lib.frozen_of_heap HRk.out 0;go_cut [] (fun wx=> ∃x:Bool,Hid (x=(A0||t0))/\Hid (wx.heap[B+1]?=some (.cells #[.bool x,.bool A1,.bool A2,.bool A3,.bool A4,.bool A5,.bool A6,.bool A7,.int .i64 lo',.int .i64 hi'] 148 (0,0)))/\Hid (wx.heap[B]?=wr.heap[B]?)/\Hid (Below B w wx))
   case first=>
    cases A0 with
    |true=>
     go_wp2_with fail;go_meet
     case rel=>exact⟨true,zzH (by cases t0<;>rfl),zzH (by rw [zzq20 _ _ _ _ _ _ HRk.out];rfl),zzH (Below.heap_setCell _ _ _ _ (by simp)),zzH (HBk.out.setCell (p:=⟨B+1,0,none⟩) (by simp) _)⟩
    |false=>
     go_wp2_with fail;go_meet
     case rel=>exact⟨t0,zzH (by cases t0<;>rfl),zzH (by rw [zzq20 _ _ _ _ _ _ HRk.out];rfl),zzH (Below.heap_setCell _ _ _ _ (by simp)),zzH (HBk.out.setCell (p:=⟨B+1,0,none⟩) (by simp) _)⟩
   case rest=>
    obtain⟨x0,HX0,HR2,H02,HB2⟩:=hcut;have H03:Hid (wc.heap[B]?=some (.cells #[.bool false,.bool false,.bool false,.bool false,.bool false,.bool false,.bool false,.bool false,.int .i64 0,.int .i64 0] 148 (0,0))):=zzH (H02.out.trans H0k.out)
    clear HRk H0k HBk H02 g0 hrl hfz;have HRk:=HR2;have H0k:=H03;have HBk:=HB2;clear HR2 H03 HB2;go_upto_region 6 with fail;have g1:wc.cell? ⟨B+1,1,none⟩=some (.bool A1):=by rw [zzq2 _ _ _ _ _ _ HRk.out];rfl
    have hrl:=zc HRk.out;have hfz:wc.frozen? ⟨B+1,1,none⟩=false:=Lib.frozen_of_heap HRk.out 1;go_cut [] (fun wx=> ∃x:Bool,Hid (x=(A1||t1))/\Hid (wx.heap[B+1]?=some (.cells #[.bool x0,.bool x,.bool A2,.bool A3,.bool A4,.bool A5,.bool A6,.bool A7,.int .i64 lo',.int .i64 hi'] 148 (0,0)))/\Hid (wx.heap[B]?=wc.heap[B]?)/\Hid (Below B w wx))
    case first=>
     cases A1 with
     |true=>
      go_wp2_with fail;go_meet
      case rel=>exact⟨true,zzH (by cases t1<;>rfl),zzH (by rw [zzq20 _ _ _ _ _ _ HRk.out];rfl),zzH (Below.heap_setCell _ _ _ _ (by simp)),zzH (HBk.out.setCell (p:=⟨B+1,1,none⟩) (by simp) _)⟩
     |false=>
      go_wp2_with fail;go_meet
      case rel=>exact⟨t1,zzH (by cases t1<;>rfl),zzH (by rw [zzq20 _ _ _ _ _ _ HRk.out];rfl),zzH (Below.heap_setCell _ _ _ _ (by simp)),zzH (HBk.out.setCell (p:=⟨B+1,1,none⟩) (by simp) _)⟩
    case rest=>
     obtain⟨x1,HX1,HR2,H02,HB2⟩:=hcut;have H03:Hid (wc.heap[B]?=some (.cells #[.bool false,.bool false,.bool false,.bool false,.bool false,.bool false,.bool false,.bool false,.int .i64 0,.int .i64 0] 148 (0,0))):=zzH (H02.out.trans H0k.out)
     clear HRk H0k HBk H02 g1 hrl hfz;have HRk:=HR2;have H0k:=H03;have HBk:=HB2;clear HR2 H03 HB2;go_upto_region 7 with fail;have g2:wc.cell? ⟨B+1,2,none⟩=some (.bool A2):=by rw [zzq2 _ _ _ _ _ _ HRk.out];rfl
     have hrl:=zc HRk.out;have hfz:wc.frozen? ⟨B+1,2,none⟩=false:=Lib.frozen_of_heap HRk.out 2;go_cut [] (fun wx=> ∃x:Bool,Hid (x=(A2||t2))/\Hid (wx.heap[B+1]?=some (.cells #[.bool x0,.bool x1,.bool x,.bool A3,.bool A4,.bool A5,.bool A6,.bool A7,.int .i64 lo',.int .i64 hi'] 148 (0,0)))/\Hid (wx.heap[B]?=wc.heap[B]?)/\Hid (Below B w wx))
     case first=>
      cases A2 with
      |true=>
       go_wp2_with fail;go_meet
       case rel=>exact⟨true,zzH (by cases t2<;>rfl),zzH (by rw [zzq20 _ _ _ _ _ _ HRk.out];rfl),zzH (Below.heap_setCell _ _ _ _ (by simp)),zzH (HBk.out.setCell (p:=⟨B+1,2,none⟩) (by simp) _)⟩
      |false=>
       go_wp2_with fail;go_meet
       case rel=>exact⟨t2,zzH (by cases t2<;>rfl),zzH (by rw [zzq20 _ _ _ _ _ _ HRk.out];rfl),zzH (Below.heap_setCell _ _ _ _ (by simp)),zzH (HBk.out.setCell (p:=⟨B+1,2,none⟩) (by simp) _)⟩
     case rest=>
      obtain⟨x2,HX2,HR2,H02,HB2⟩:=hcut;have H03:Hid (wc.heap[B]?=some (.cells #[.bool false,.bool false,.bool false,.bool false,.bool false,.bool false,.bool false,.bool false,.int .i64 0,.int .i64 0] 148 (0,0))):=zzH (H02.out.trans H0k.out)
      clear HRk H0k HBk H02 g2 hrl hfz;have HRk:=HR2;have H0k:=H03;have HBk:=HB2;clear HR2 H03 HB2;go_upto_region 8 with fail;have g3:wc.cell? ⟨B+1,3,none⟩=some (.bool A3):=by rw [zzq2 _ _ _ _ _ _ HRk.out];rfl
      have hrl:=zc HRk.out;have hfz:wc.frozen? ⟨B+1,3,none⟩=false:=Lib.frozen_of_heap HRk.out 3;go_cut [] (fun wx=> ∃x:Bool,Hid (x=(A3||t3))/\Hid (wx.heap[B+1]?=some (.cells #[.bool x0,.bool x1,.bool x2,.bool x,.bool A4,.bool A5,.bool A6,.bool A7,.int .i64 lo',.int .i64 hi'] 148 (0,0)))/\Hid (wx.heap[B]?=wc.heap[B]?)/\Hid (Below B w wx))
      case first=>
       cases A3 with
       |true=>
        go_wp2_with fail;go_meet
        case rel=>exact⟨true,zzH (by cases t3<;>rfl),zzH (by rw [zzq20 _ _ _ _ _ _ HRk.out];rfl),zzH (Below.heap_setCell _ _ _ _ (by simp)),zzH (HBk.out.setCell (p:=⟨B+1,3,none⟩) (by simp) _)⟩
       |false=>
        go_wp2_with fail;go_meet
        case rel=>exact⟨t3,zzH (by cases t3<;>rfl),zzH (by rw [zzq20 _ _ _ _ _ _ HRk.out];rfl),zzH (Below.heap_setCell _ _ _ _ (by simp)),zzH (HBk.out.setCell (p:=⟨B+1,3,none⟩) (by simp) _)⟩
      case rest=>
       obtain⟨x3,HX3,HR2,H02,HB2⟩:=hcut;have H03:Hid (wc.heap[B]?=some (.cells #[.bool false,.bool false,.bool false,.bool false,.bool false,.bool false,.bool false,.bool false,.int .i64 0,.int .i64 0] 148 (0,0))):=zzH (H02.out.trans H0k.out)
       clear HRk H0k HBk H02 g3 hrl hfz;have HRk:=HR2;have H0k:=H03;have HBk:=HB2;clear HR2 H03 HB2;go_upto_region 9 with fail;have g4:wc.cell? ⟨B+1,4,none⟩=some (.bool A4):=by rw [zzq2 _ _ _ _ _ _ HRk.out];rfl
       have hrl:=zc HRk.out;have hfz:wc.frozen? ⟨B+1,4,none⟩=false:=Lib.frozen_of_heap HRk.out 4;go_cut [] (fun wx=> ∃x:Bool,Hid (x=(A4||t4))/\Hid (wx.heap[B+1]?=some (.cells #[.bool x0,.bool x1,.bool x2,.bool x3,.bool x,.bool A5,.bool A6,.bool A7,.int .i64 lo',.int .i64 hi'] 148 (0,0)))/\Hid (wx.heap[B]?=wc.heap[B]?)/\Hid (Below B w wx))
       case first=>
        cases A4 with
        |true=>
         go_wp2_with fail;go_meet
         case rel=>exact⟨true,zzH (by cases t4<;>rfl),zzH (by rw [zzq20 _ _ _ _ _ _ HRk.out];rfl),zzH (Below.heap_setCell _ _ _ _ (by simp)),zzH (HBk.out.setCell (p:=⟨B+1,4,none⟩) (by simp) _)⟩
        |false=>
         go_wp2_with fail;go_meet
         case rel=>exact⟨t4,zzH (by cases t4<;>rfl),zzH (by rw [zzq20 _ _ _ _ _ _ HRk.out];rfl),zzH (Below.heap_setCell _ _ _ _ (by simp)),zzH (HBk.out.setCell (p:=⟨B+1,4,none⟩) (by simp) _)⟩
       case rest=>
        obtain⟨x4,HX4,HR2,H02,HB2⟩:=hcut;have H03:Hid (wc.heap[B]?=some (.cells #[.bool false,.bool false,.bool false,.bool false,.bool false,.bool false,.bool false,.bool false,.int .i64 0,.int .i64 0] 148 (0,0))):=zzH (H02.out.trans H0k.out)
        clear HRk H0k HBk H02 g4 hrl hfz;have HRk:=HR2;have H0k:=H03;have HBk:=HB2;clear HR2 H03 HB2;go_upto_region 10 with fail;have g5:wc.cell? ⟨B+1,5,none⟩=some (.bool A5):=by rw [zzq2 _ _ _ _ _ _ HRk.out];rfl
        have hrl:=zc HRk.out;have hfz:wc.frozen? ⟨B+1,5,none⟩=false:=Lib.frozen_of_heap HRk.out 5;go_cut [] (fun wx=> ∃x:Bool,Hid (x=(A5||t5))/\Hid (wx.heap[B+1]?=some (.cells #[.bool x0,.bool x1,.bool x2,.bool x3,.bool x4,.bool x,.bool A6,.bool A7,.int .i64 lo',.int .i64 hi'] 148 (0,0)))/\Hid (wx.heap[B]?=wc.heap[B]?)/\Hid (Below B w wx))
        case first=>
         cases A5 with
         |true=>
          go_wp2_with fail;go_meet
          case rel=>exact⟨true,zzH (by cases t5<;>rfl),zzH (by rw [zzq20 _ _ _ _ _ _ HRk.out];rfl),zzH (Below.heap_setCell _ _ _ _ (by simp)),zzH (HBk.out.setCell (p:=⟨B+1,5,none⟩) (by simp) _)⟩
         |false=>
          go_wp2_with fail;go_meet
          case rel=>exact⟨t5,zzH (by cases t5<;>rfl),zzH (by rw [zzq20 _ _ _ _ _ _ HRk.out];rfl),zzH (Below.heap_setCell _ _ _ _ (by simp)),zzH (HBk.out.setCell (p:=⟨B+1,5,none⟩) (by simp) _)⟩
        case rest=>
         obtain⟨x5,HX5,HR2,H02,HB2⟩:=hcut;have H03:Hid (wc.heap[B]?=some (.cells #[.bool false,.bool false,.bool false,.bool false,.bool false,.bool false,.bool false,.bool false,.int .i64 0,.int .i64 0] 148 (0,0))):=zzH (H02.out.trans H0k.out)
         clear HRk H0k HBk H02 g5 hrl hfz;have HRk:=HR2;have H0k:=H03;have HBk:=HB2;clear HR2 H03 HB2;go_upto_region 11 with fail;have g6:wc.cell? ⟨B+1,6,none⟩=some (.bool A6):=by rw [zzq2 _ _ _ _ _ _ HRk.out];rfl
         have hrl:=zc HRk.out;have hfz:wc.frozen? ⟨B+1,6,none⟩=false:=Lib.frozen_of_heap HRk.out 6;go_cut [] (fun wx=> ∃x:Bool,Hid (x=(A6||t6))/\Hid (wx.heap[B+1]?=some (.cells #[.bool x0,.bool x1,.bool x2,.bool x3,.bool x4,.bool x5,.bool x,.bool A7,.int .i64 lo',.int .i64 hi'] 148 (0,0)))/\Hid (wx.heap[B]?=wc.heap[B]?)/\Hid (Below B w wx))
         case first=>
          cases A6 with
          |true=>
           go_wp2_with fail;go_meet
           case rel=>exact⟨true,zzH (by cases t6<;>rfl),zzH (by rw [zzq20 _ _ _ _ _ _ HRk.out];rfl),zzH (Below.heap_setCell _ _ _ _ (by simp)),zzH (HBk.out.setCell (p:=⟨B+1,6,none⟩) (by simp) _)⟩
          |false=>
           go_wp2_with fail;go_meet
           case rel=>exact⟨t6,zzH (by cases t6<;>rfl),zzH (by rw [zzq20 _ _ _ _ _ _ HRk.out];rfl),zzH (Below.heap_setCell _ _ _ _ (by simp)),zzH (HBk.out.setCell (p:=⟨B+1,6,none⟩) (by simp) _)⟩
         case rest=>
          obtain⟨x6,HX6,HR2,H02,HB2⟩:=hcut;have H03:Hid (wc.heap[B]?=some (.cells #[.bool false,.bool false,.bool false,.bool false,.bool false,.bool false,.bool false,.bool false,.int .i64 0,.int .i64 0] 148 (0,0))):=zzH (H02.out.trans H0k.out)
          clear HRk H0k HBk H02 g6 hrl hfz;have HRk:=HR2;have H0k:=H03;have HBk:=HB2;clear HR2 H03 HB2;go_upto_region 12 with fail;have g7:wc.cell? ⟨B+1,7,none⟩=some (.bool A7):=by rw [zzq2 _ _ _ _ _ _ HRk.out];rfl
          have hrl:=zc HRk.out;have hfz:wc.frozen? ⟨B+1,7,none⟩=false:=Lib.frozen_of_heap HRk.out 7
          cases A7 with
          |true=>
           go_wp2_with fail;have HR8:Hid ((wc.setCell ⟨B+1,7,none⟩ (.bool true)).heap[B+1]?=some (.cells (RRow.val ⟨x0,x1,x2,x3,x4,x5,x6,true,lo',hi'⟩) 148 (0,0))):=zzH (by rw [zzq20 _ _ _ _ _ _ HRk.out];rfl)
           have H08:Hid ((wc.setCell ⟨B+1,7,none⟩ (.bool true)).heap[B]?=some (.cells #[.bool false,.bool false,.bool false,.bool false,.bool false,.bool false,.bool false,.bool false,.int .i64 0,.int .i64 0] 148 (0,0))):=zzH ((Below.heap_setCell _ _ _ _ (by simp)).trans H0k.out)
           go_roundw
           case rel=>exact⟨k+1,⟨x0,x1,x2,x3,x4,x5,x6,true,lo',hi'⟩,by omega,by go_num,zzH (by rw [HST.out,HX0.out,HX1.out,HX2.out,HX3.out,HX4.out,HX5.out,HX6.out];cases t7<;>rfl),HR8,H08,zzH (HBk.out.setCell (p:=⟨B+1,7,none⟩) (by simp) _)⟩
           case measure=>simp [intOf];omega
          |false=>
           go_wp2_with fail;have HR8:Hid ((wc.setCell ⟨B+1,7,none⟩ (.bool t7)).heap[B+1]?=some (.cells (RRow.val ⟨x0,x1,x2,x3,x4,x5,x6,t7,lo',hi'⟩) 148 (0,0))):=zzH (by rw [zzq20 _ _ _ _ _ _ HRk.out];rfl)
           have H08:Hid ((wc.setCell ⟨B+1,7,none⟩ (.bool t7)).heap[B]?=some (.cells #[.bool false,.bool false,.bool false,.bool false,.bool false,.bool false,.bool false,.bool false,.int .i64 0,.int .i64 0] 148 (0,0))):=zzH ((Below.heap_setCell _ _ _ _ (by simp)).trans H0k.out)
           go_roundw
           case rel=>exact⟨k+1,⟨x0,x1,x2,x3,x4,x5,x6,t7,lo',hi'⟩,by omega,by go_num,zzH (by rw [HST.out,HX0.out,HX1.out,HX2.out,HX3.out,HX4.out,HX5.out,HX6.out];cases t7<;>rfl),HR8,H08,zzH (HBk.out.setCell (p:=⟨B+1,7,none⟩) (by simp) _)⟩
           case measure=>simp [intOf];omega
  ·have hke:k=s.size:=by omega
   have E:Hid ((⟨A0,A1,A2,A3,A4,A5,A6,A7,lo',hi'⟩:RRow)=zbe s.data.toList lo' hi'):=zzH (by rw [HRW.out,HE.out,hke]);clear hke HRW
   go_wp2_with (first
    |(refine wpList_load_row rfl 148 (.tmp 7) rfl (B+1) rfl _ _ _ _ HRk.out Tryz.underlying148 rfl (by kernel_rfl) ?_)
    |(refine wpList_store_row rfl 148 (.tmp 6) (.tmp 90) rfl B (RRow.val ⟨A0,A1,A2,A3,A4,A5,A6,A7,lo',hi'⟩) rfl rfl 148 _ H0k.out (by kernel_rfl) rfl (RRow.one _) ?_))
   have hres:=setRow_heap wr B _ (RRow.val ⟨A0,A1,A2,A3,A4,A5,A6,A7,lo',hi'⟩) 148 _ H0k.out;refine zzj (results_cell_row rfl _ _ B _ _ _ _ rfl hres Tryz.underlying148 rfl (by kernel_rfl)) rfl ?_;exact⟨by rw [E.out],by rw [HBE.out];exact below_setRow HBk.out (zzL _) _⟩
def zla (f:Nat):Prop:= ∀(t:Tm) (ao bo:Option Addr) (c d:Nat) (w:World),SlAt w 9 (TmAt w f) ao t.items->SlAt w 9 (TmAt w f) bo t.items->t.items.length<=maxLen ->
 Calls Tryz.prog 20 #[.agg #[.int .i64 t.kind,.int .i64 t.int,.int .i64 t.gen,.string t.name,.string t.func,.int .i64 t.arity,.slice ao t.items.length c,.string t.bytes,.int .i64 t.bits],
   .agg #[.int .i64 t.kind,.int .i64 t.int,.int .i64 t.gen,.string t.name,.string t.func,.int .i64 t.arity,.slice bo t.items.length d,.string t.bytes,.int .i64 t.bits]] w fun e w'=>e= .returned (.bool true)/\Below w.heap.size w w'
def zhB (f:Nat):Prop:= ∀(l:List Tm) (ao bo:Option Addr) (c d:Nat) (w:World),SlAt w 9 (TmAt w f) ao l->SlAt w 9 (TmAt w f) bo l->l.length<=maxLen ->
 Calls Tryz.prog 62 #[.slice ao l.length c,.slice bo l.length d] w fun e w'=>e= .returned (.bool true)/\Below w.heap.size w w'
theorem zkv {f:Nat} (HP:Hid (zhB f)):zla f:=by
 intro t ao bo c d w ha hb hl;have hbe:=zU w (.cells #[.int .i64 t.kind,.int .i64 t.int,.int .i64 t.gen,.string t.name,.string t.func,.int .i64 t.arity,.slice ao t.items.length c,.string t.bytes,.int .i64 t.bits] 55) (.cells #[.int .i64 t.kind,.int .i64 t.int,.int .i64 t.gen,.string t.name,.string t.func,.int .i64 t.arity,.slice bo t.items.length d,.string t.bytes,.int .i64 t.bits] 55);have r0:=zfD w (.cells #[.int .i64 t.kind,.int .i64 t.int,.int .i64 t.gen,.string t.name,.string t.func,.int .i64 t.arity,.slice ao t.items.length c,.string t.bytes,.int .i64 t.bits] 55) (.cells #[.int .i64 t.kind,.int .i64 t.int,.int .i64 t.gen,.string t.name,.string t.func,.int .i64 t.arity,.slice bo t.items.length d,.string t.bytes,.int .i64 t.bits] 55);have r1:=zeR w (.cells #[.int .i64 t.kind,.int .i64 t.int,.int .i64 t.gen,.string t.name,.string t.func,.int .i64 t.arity,.slice ao t.items.length c,.string t.bytes,.int .i64 t.bits] 55) (.cells #[.int .i64 t.kind,.int .i64 t.int,.int .i64 t.gen,.string t.name,.string t.func,.int .i64 t.arity,.slice bo t.items.length d,.string t.bytes,.int .i64 t.bits] 55);have hL:=fun wx (hx:Below w.heap.size w wx)=>HP.out t.items ao bo c d wx (ha.tms hx) (hb.tms hx) hl
 have HL:=zzH hL;clear hL ha hb hl HP;go_in;go_upto_region 1 with fail;generalize World.alloc _ _=w2 at *;have HB:=zzH hbe;obtain⟨q0,q1,q2,q3,q4,q5,q6,q7,q8,z0,z1,z2,z3,z4,z5,z6,z7,z8⟩:=zg r0;obtain⟨x0,x1,x2,x3,x4,x5,x6,x7,x8,y0,y1,y2,y3,y4,y5,y6,y7,y8⟩:=zg r1;clear r0 r1 hbe;go_wp2_with (go_at_call 62;refine(HL.out w2 HB.out).mono ?_;rintro e w3 ⟨rfl,hb3⟩);go_ret;exact⟨rfl,zd HB.out hb3⟩
theorem zlB:zhB 0:=by
 intro l ao bo c d w ha hb hl;obtain rfl:=ha.zero;clear ha hb hl;go_in;go_wp2_with fail;go_loop [5] (fun i=>i= .int .i64 0) (fun _=>0)
 case atStart=>rfl
 case round=>
  obtain rfl:=hrel;exact zz6
theorem zlu {f:Nat} (HQ:Hid (zla f)):zhB (f+1):=by
 intro l ao bo c d w ha hb hl;unfold maxLen at hl;have HA:=zzH ha;have HB:=zzH hb;clear ha hb;go_in;go_wp2_with fail;go_loopw [5] (fun iv wr=> ∃k:Nat,k<=l.length/\iv= .int .i64 k/\Below w.heap.size w wr) (fun iv _=>l.length-(intOf iv).toNat)
 case atStart=>exact⟨0,zzZ _,rfl,zzR _ _⟩
 case round=>
  obtain⟨k,hk,rfl,hbr⟩:=hrel;rename World=>wr
  by_cases hlt:k<l.length
  ·obtain⟨b1,off1,ai,ci,hao,hb1,q0,q1,q2,q3,q4,q5,q6,q7,q8,hit,hok⟩:=(HA.out.tms hbr).tm hlt
   obtain⟨b2,off2,bi,di,hbo,hb2,p0,p1,p2,p3,p4,p5,p6,p7,p8,hit2,hok2⟩:=(HB.out.tms hbr).tm hlt;subst hao;subst hbo;have hSM:=HQ.out l[k] ai bi ci di wr.drew (hit.tms (zzR _ _).drew) (hit2.tms (zzR _ _).drew) hok.2.2.2.2.2.2.1;have HBR:=zzH hbr;clear hit hit2 hok hok2 hbr;generalize l[k]=x at *;go_wp2_with fail
   first|go_region_held3 (fun w'=>(w'.cell? ⟨b1,off1+k*9,none⟩=some (.int .i64 x.kind)/\w'.cell? ⟨b1,off1+k*9+1,none⟩=some (.int .i64 x.int)/\w'.cell? ⟨b1,off1+k*9+2,none⟩=some (.int .i64 x.gen)/\w'.cell? ⟨b1,off1+k*9+3,none⟩=some (.string x.name)/\w'.cell? ⟨b1,off1+k*9+4,none⟩=some (.string x.func)/\w'.cell? ⟨b1,off1+k*9+5,none⟩=some (.int .i64 x.arity)/\w'.cell? ⟨b1,off1+k*9+6,none⟩=some (.slice ai x.items.length ci)/\w'.cell? ⟨b1,off1+k*9+7,none⟩=some (.string x.bytes)/\w'.cell? ⟨b1,off1+k*9+8,none⟩=some (.int .i64 x.bits))/\(w'.cell? ⟨b2,off2+k*9,none⟩=some (.int .i64 x.kind)/\w'.cell? ⟨b2,off2+k*9+1,none⟩=some (.int .i64 x.int)/\w'.cell? ⟨b2,off2+k*9+2,none⟩=some (.int .i64 x.gen)/\w'.cell? ⟨b2,off2+k*9+3,none⟩=some (.string x.name)/\w'.cell? ⟨b2,off2+k*9+4,none⟩=some (.string x.func)/\w'.cell? ⟨b2,off2+k*9+5,none⟩=some (.int .i64 x.arity)/\w'.cell? ⟨b2,off2+k*9+6,none⟩=some (.slice bi x.items.length di)/\w'.cell? ⟨b2,off2+k*9+7,none⟩=some (.string x.bytes)/\w'.cell? ⟨b2,off2+k*9+8,none⟩=some (.int .i64 x.bits))) (((repeat' apply And.intro)<;>assumption)) ((go_at_call 20;refine hSM.mono ?_;rintro e w5 ⟨rfl,hb5⟩;have r0:=(hb5.cell (p:=⟨b1,off1+k*9,none⟩) hb1).trans q0;have r1:=(hb5.cell (p:=⟨b1,off1+k*9+1,none⟩) hb1).trans q1;have r2:=(hb5.cell (p:=⟨b1,off1+k*9+2,none⟩) hb1).trans q2;have r3:=(hb5.cell (p:=⟨b1,off1+k*9+3,none⟩) hb1).trans q3;have r4:=(hb5.cell (p:=⟨b1,off1+k*9+4,none⟩) hb1).trans q4;have r5:=(hb5.cell (p:=⟨b1,off1+k*9+5,none⟩) hb1).trans q5;have r6:=(hb5.cell (p:=⟨b1,off1+k*9+6,none⟩) hb1).trans q6;have r7:=(hb5.cell (p:=⟨b1,off1+k*9+7,none⟩) hb1).trans q7;have r8:=(hb5.cell (p:=⟨b1,off1+k*9+8,none⟩) hb1).trans q8;have s0:=(hb5.cell (p:=⟨b2,off2+k*9,none⟩) hb2).trans p0;have s1:=(hb5.cell (p:=⟨b2,off2+k*9+1,none⟩) hb2).trans p1;have s2:=(hb5.cell (p:=⟨b2,off2+k*9+2,none⟩) hb2).trans p2;have s3:=(hb5.cell (p:=⟨b2,off2+k*9+3,none⟩) hb2).trans p3;have s4:=(hb5.cell (p:=⟨b2,off2+k*9+4,none⟩) hb2).trans p4;have s5:=(hb5.cell (p:=⟨b2,off2+k*9+5,none⟩) hb2).trans p5;have s6:=(hb5.cell (p:=⟨b2,off2+k*9+6,none⟩) hb2).trans p6;have s7:=(hb5.cell (p:=⟨b2,off2+k*9+7,none⟩) hb2).trans p7;have s8:=(hb5.cell (p:=⟨b2,off2+k*9+8,none⟩) hb2).trans p8))|fail
   exact zz201
  ·go_wp2_with fail
   go_ret;exact⟨rfl,hbr⟩
theorem zib: ∀f,zhB f
 |0=>zlB
 |f+1=>zlu (zzH (zkv (zzH (zib f))))
theorem zoU (f:Nat):zla f:=zkv (zzH (zib f))
end Go.Proofs.YtijekmeocadkeaaGreatDoor
