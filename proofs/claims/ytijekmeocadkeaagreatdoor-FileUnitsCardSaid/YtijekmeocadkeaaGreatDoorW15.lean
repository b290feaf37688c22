import Derived.Test.YtijekmeocadkeaaGreatDoorW11
import Derived.Test.YtijekmeocadkeaaGreatDoorW12
import Derived.Test.YtijekmeocadkeaaGreatDoorW13
namespace Go.Proofs.YtijekmeocadkeaaGreatDoor
open Go.RowKit
set_option linter.unusedVariables false
set_option linter.unusedSimpArgs false
set_option maxRecDepth 100000
set_option maxHeartbeats 0
open Go.RowKit Go.Shelf Go.Lib
def fl_RdAt (r:Nat) (rest:List UInt8) (lv:Value) (w:World):Prop:=w.heap[r]?=some (.cells #[.string ⟨rest.toArray⟩,lv] 76 (0,0))
theorem fl_RdAt.lt {r:Nat} {rest:List UInt8} {lv:Value} {w:World} (h:fl_RdAt r rest lv w):r<w.heap.size:=(Array.getElem?_eq_some_iff.1 h).1
theorem fl_RdAt.c0 {r:Nat} {rest:List UInt8} {lv:Value} {w:World} (h:fl_RdAt r rest lv w):w.cell? ⟨r,0,none⟩=some (.string ⟨rest.toArray⟩):=by rw [zzq2 _ _ _ _ _ _ h];rfl
theorem fl_RdAt.c1 {r:Nat} {rest:List UInt8} {lv:Value} {w:World} (h:fl_RdAt r rest lv w):w.cell? ⟨r,1,none⟩=some lv:=by rw [zzq2 _ _ _ _ _ _ h];rfl
theorem fl_RdAt.f0 {r:Nat} {rest:List UInt8} {lv:Value} {w:World} (h:fl_RdAt r rest lv w):w.frozen? ⟨r,0,none⟩=false:=Lib.frozen_of_heap h 0
theorem fl_RdAt.f1 {r:Nat} {rest:List UInt8} {lv:Value} {w:World} (h:fl_RdAt r rest lv w):w.frozen? ⟨r,1,none⟩=false:=Lib.frozen_of_heap h 1
theorem fl_RdAt.below {r:Nat} {rest:List UInt8} {lv:Value} {w w':World} (h:fl_RdAt r rest lv w) (hb:Below w.heap.size w w'):fl_RdAt r rest lv w':=(hb.block r h.lt).trans h
theorem fl_RdAt.set0 {r:Nat} {rest:List UInt8} {lv:Value} {w:World} (h:fl_RdAt r rest lv w) (l:List UInt8):fl_RdAt r l lv (w.setCell ⟨r,0,none⟩ (.string ⟨l.toArray⟩)):=by
 unfold fl_RdAt at *;simp [World.setCell,h,Array.getElem?_modify]
theorem fl_RdAt.set1 {r:Nat} {rest:List UInt8} {lv:Value} {w:World} (h:fl_RdAt r rest lv w) (v:Value):fl_RdAt r rest v (w.setCell ⟨r,1,none⟩ v):=by
 unfold fl_RdAt at *;simp [World.setCell,h,Array.getElem?_modify]
theorem zkb (l:List UInt8) (n:Nat):(⟨l.toArray⟩:ByteArray).extract 0 n=⟨(l.take n).toArray⟩:=by
 apply ByteArray.ext;rw [ByteArray.data_extract];simp
theorem zks (l:List UInt8) (n m:Nat) (h:l.length=m):(⟨l.toArray⟩:ByteArray).extract n m=⟨(l.drop n).toArray⟩:=by
 apply ByteArray.ext;rw [ByteArray.data_extract];simp [<-h];exact List.take_of_length_le (by simp)
theorem zfe (w:World) (r o:Nat) (v:Value):w.grownBy (w.setCell ⟨r,o,none⟩ v) (some r):=
 ⟨rfl,rfl,rfl,by simp [World.setCell],fun k _ hk=>Below.heap_setCell _ _ _ _ (fun e=>hk (by rw [e]))⟩
theorem zgk (w:World) (o:Option Nat):w.grownBy w o:=⟨rfl,rfl,rfl,zzL _,fun _ _ _=>rfl⟩
theorem zbc {a b c:World} {o:Option Nat} (h:a.grownBy b o) (h':b.grownBy c o):a.grownBy c o:=
 ⟨h'.os.trans h.os,h'.tape.trans h.tape,h'.output.trans h.output,zzY h.size h'.size,fun k hk hn=>(h'.block k (zzW hk h.size) hn).trans (h.block k hk hn)⟩
theorem zhQ {a b:World} {o:Option Nat} (h:a.grownBy b o) (n:Nat):a.grownBy (b.drewN n) o:=⟨h.os,h.tape,h.output,h.size,h.block⟩
theorem ze1 {a b:World} {o:Option Nat} (h:a.grownBy b o):a.grownBy b.drew o:=⟨h.os,h.tape,h.output,h.size,h.block⟩
theorem zc8 {a b:World} (h:Below a.heap.size a b) (o:Option Nat):a.grownBy b o:=⟨h.os,h.tape,h.output,h.size,fun k hk _=>h.block k hk⟩
theorem zdX {w:World} {C i:Nat} {cs:Array Value} {t:TypeId} {fr:Nat × Nat} (h:w.heap[C]?=some (.cells cs t fr)) (v:Value):(w.setCell ⟨C,i,none⟩ v).heap[C]?=some (.cells (cs.setIfInBounds i v) t fr):=by
 simp [World.setCell,h,Array.getElem?_modify]
theorem zdq {fn:Func} {p u:Tmp} {ty:TypeId} (h:fn.results=#[.cell p ty,.tmp u]) (tmps:Array Value) (P:Program) (w:World) (g:Nat) (t:TypeId) (cs:Array Value) (fr:Nat × Nat) (fs:Array Field)
  (hp:tmps.getD p undef= .pointer (some ⟨g,0,none⟩)) (hg:w.heap[g]?=some (.cells cs t fr))
  (hu:P.underlying ty=some (.struct fs)) (hi:(P.info? ty).map (·.size)=some cs.size):
  (results fn tmps).run P w= .ok (.tuple #[.agg cs,tmps.getD u undef]) w:=by
 have hl:=run_loadVar_row w g t ty cs fr (.struct fs) hg hu rfl hi;rw [results_cell_tmp h,hp];simp [asAddr,hl,Result.andThen]
theorem zcO {a b:World} {r C o:Nat} (h:a.grownBy b (some r)) (hC:a.heap.size<=C) (v:Value):a.grownBy (b.setCell ⟨C,o,none⟩ v) (some r):=
 ⟨h.os,h.tape,h.output,by simp [World.setCell];exact h.size,fun k hk hn=>(Below.heap_setCell _ _ _ _ (by show k≠C;omega)).trans (h.block k hk hn)⟩
theorem zbV {w:World} {C:Nat} {o:Obj} (h:w.heap[C]?=some o):C<w.heap.size:=(Array.getElem?_eq_some_iff.1 h).1
theorem zhw {r C o:Nat} {l:List UInt8} {lv:Value} {w:World} (h:fl_RdAt r l lv w) (hC:C≠r) (v:Value):fl_RdAt r l lv (w.setCell ⟨C,o,none⟩ v):=(Below.heap_setCell _ _ _ _ (by show r≠C;omega)).trans h
theorem zm6 {a b:Value} {a' b':Value} (h:a=a') (h':b=b'):Ending.returned (.tuple #[a,b])= .returned (.tuple #[a',b']):=by rw [h,h']
theorem zcs (r:Nat) (rest:List UInt8) (lv:Value) (n:Int) (m:Nat) (hn:n=m) (w:World) (h:fl_RdAt r rest lv w) (hm:m<=rest.length) (hz:rest.length<=9223372036854775807):
  Calls Tryz.prog 28 #[.pointer (some ⟨r,0,none⟩),.int .i64 n] w fun e w'=>e= .returned (.tuple #[.string ⟨(rest.take m).toArray⟩,.bool true])/\fl_RdAt r (rest.drop m) lv w'/\w.grownBy w' (some r):=by
 subst hn;have c0:=h.c0;have f0:=h.f0;have hs:(⟨rest.toArray⟩:ByteArray).size=rest.length:=by show rest.toArray.size=_;simp
 have hmi:(m:Int)<=rest.length:=by omega
 go_in;go_wp2;go_ret2;refine⟨zm6 (congrArg Value.string (zkb _ _)) rfl,?_,zfe _ _ _ _⟩;rw [zks _ _ _ rfl];exact h.set0 _
theorem zel (r:Nat) (rest:List UInt8) (lv:Value) (n:Int) (m:Nat) (hn:n=m) (w:World) (h:fl_RdAt r rest lv w) (hm:rest.length<m) (hz:rest.length<=9223372036854775807):
  Calls Tryz.prog 28 #[.pointer (some ⟨r,0,none⟩),.int .i64 n] w fun e w'=>e= .returned (.tuple #[.string ⟨#[]⟩,.bool false])/\w'=w:=by
 subst hn;have c0:=h.c0;have f0:=h.f0;have hs:(⟨rest.toArray⟩:ByteArray).size=rest.length:=by show rest.toArray.size=_;simp
 have hmi: ¬(m:Int)<=rest.length:=by omega
 go_in;go_wp2;go_ret2;exact⟨rfl,rfl⟩
theorem zub (r:Nat) (rest:List UInt8) (lv:Value) (n:Int) (m:Nat) (hn:n=m) (w:World) (h:fl_RdAt r rest lv w) (hz:rest.length<=9223372036854775807):
  Calls Tryz.prog 28 #[.pointer (some ⟨r,0,none⟩),.int .i64 n] w fun e w'=> ∃s bb,e= .returned (.tuple #[.string s,.bool bb])/\w.grownBy w' (some r):=by
 by_cases hm:m<=rest.length
 ·refine(zcs r rest lv n m hn w h hm hz).mono ?_
  rintro e w1 ⟨rfl,_,hg⟩;exact⟨_,_,rfl,hg⟩
 ·refine(zel r rest lv n m hn w h (by omega) hz).mono ?_
  rintro e w1 ⟨rfl,rfl⟩;exact⟨_,_,rfl,zgk _ _⟩
theorem zg8 (a b:Nat) (ha:a<9223372036854775808) (hb:b<9223372036854775808):bits .or .i64 (a:Int) (b:Int)=((a |||b:Nat):Int):=by
 exact zz13
theorem ztG (a b c d:Nat) (ha:a<256) (hb:b<256) (hc:c<256) (hd:d<256):((a*16777216 |||b*65536) |||c*256) |||d=a*16777216+b*65536+c*256+d:=by
 have e1:=Nat.two_pow_add_eq_or_of_lt (i:=24) (b:=b*65536) (by omega) a;have e2:=Nat.two_pow_add_eq_or_of_lt (i:=16) (b:=c*256) (by omega) (a*256+b);have e3:=Nat.two_pow_add_eq_or_of_lt (i:=8) (b:=d) (by omega) (a*65536+b*256+c);have f1:2^24*a=a*16777216:=by omega
 have f2:2^16*(a*256+b)=a*16777216+b*65536:=by omega
 have f3:2^8*(a*65536+b*256+c)=a*16777216+b*65536+c*256:=by omega
 rw [f1]at e1;rw [f2]at e2;rw [f3]at e3;rw [<-e1,<-e2,<-e3]
theorem zqR (a b c d:UInt8):bits .or .i64 (bits .or .i64 (bits .or .i64 (wrap64 (wrap64 (a.toNat:Int)*16777216)) (wrap64 (wrap64 (b.toNat:Int)*65536))) (wrap64 (wrap64 (c.toNat:Int)*256))) (wrap64 (d.toNat:Int))=((zdI [a,b,c,d]:Nat):Int):=by
 have ha:=a.toNat_lt;have hb:=b.toNat_lt;have hc:=c.toNat_lt;have hd:=d.toNat_lt;have e1:wrap64 (wrap64 (a.toNat:Int)*16777216)=((a.toNat*16777216:Nat):Int):=by unfold wrap64;omega
 have e2:wrap64 (wrap64 (b.toNat:Int)*65536)=((b.toNat*65536:Nat):Int):=by unfold wrap64;omega
 have e3:wrap64 (wrap64 (c.toNat:Int)*256)=((c.toNat*256:Nat):Int):=by unfold wrap64;omega
 have e4:wrap64 (d.toNat:Int)=((d.toNat:Nat):Int):=by unfold wrap64;omega
 have g1:a.toNat*16777216 |||b.toNat*65536<2^32:=Nat.or_lt_two_pow (by omega) (by omega)
 have g2:(a.toNat*16777216 |||b.toNat*65536) |||c.toNat*256<2^32:=Nat.or_lt_two_pow g1 (by omega)
 rw [e1,e2,e3,e4,zg8 _ _ (by omega) (by omega),zg8 _ _ (by omega) (by omega),zg8 _ _ (by omega) (by omega),ztG _ _ _ _ (by omega) (by omega) (by omega) (by omega)]
 rfl
theorem zhV (r:Nat) (rest:List UInt8) (lv:Value) (w:World) (h:fl_RdAt r rest lv w) (hm:4<=rest.length) (hz:rest.length<=9223372036854775807):
  Calls Tryz.prog 29 #[.pointer (some ⟨r,0,none⟩)] w fun e w'=>e= .returned (.tuple #[.int .i64 (zdI (rest.take 4):Nat),.bool true])/\fl_RdAt r (rest.drop 4) lv w'/\w.grownBy w' (some r):=by
 obtain⟨a,b,c,d,h4⟩:=zs0 (l:=rest.take 4) (by rw [List.length_take];omega)
 have ht: ∀wx,fl_RdAt r rest lv wx->Calls Tryz.prog 28 #[.pointer (some ⟨r,0,none⟩),.int .i64 4] wx fun e w'=>e= .returned (.tuple #[.string ⟨#[a,b,c,d]⟩,.bool true])/\fl_RdAt r (rest.drop 4) lv w'/\wx.grownBy w' (some r):=fun wx hx=>by
  have:=zcs r rest lv 4 4 rfl wx hx hm hz;rw [h4]at this;exact this
 rw [h4];have i0: ∀wx,(Instr.index 9 (.string ⟨#[a,b,c,d]⟩) (.int .i64 0)).run Tryz.prog wx= .ok (.int .u8 a.toNat) wx:=fun wx=>by rw [run_index_string (h:=by kernel_rfl)];rfl
 have i1: ∀wx,(Instr.index 9 (.string ⟨#[a,b,c,d]⟩) (.int .i64 1)).run Tryz.prog wx= .ok (.int .u8 b.toNat) wx:=fun wx=>by rw [run_index_string (h:=by kernel_rfl)];rfl
 have i2: ∀wx,(Instr.index 9 (.string ⟨#[a,b,c,d]⟩) (.int .i64 2)).run Tryz.prog wx= .ok (.int .u8 c.toNat) wx:=fun wx=>by rw [run_index_string (h:=by kernel_rfl)];rfl
 have i3: ∀wx,(Instr.index 9 (.string ⟨#[a,b,c,d]⟩) (.int .i64 3)).run Tryz.prog wx= .ok (.int .u8 d.toNat) wx:=fun wx=>by rw [run_index_string (h:=by kernel_rfl)];rfl
 go_in;go_wp2_with (go_at_call 28;refine(ht _ h).mono ?_;rintro e w1 ⟨rfl,h1,hg1⟩);go_quiet (fail);go_wp2;go_ret2;exact⟨zm6 (congrArg (Value.int .i64) (zqR a b c d)) rfl,h1,zhQ hg1 _⟩
theorem zht (r:Nat) (rest:List UInt8) (lv:Value) (w:World) (h:fl_RdAt r rest lv w) (hm:rest.length<4):
  Calls Tryz.prog 29 #[.pointer (some ⟨r,0,none⟩)] w fun e w'=>e= .returned (.tuple #[.int .i64 0,.bool false])/\w'=w:=by
 go_in;go_wp2_with (go_at_call 28;refine(zel r rest lv 4 4 rfl _ h hm (by omega)).mono ?_;rintro e w1 ⟨rfl,rfl⟩);go_ret2;exact⟨rfl,rfl⟩
theorem zj2 (l:List UInt8):(l.dropWhile (· ==0)= [])↔l.all (· ==0)=true:=by
 induction l with
 |nil=>simp
 |cons a l ih=>
  rw [List.dropWhile_cons];split
  ·rename_i h;rw [ih];simp only [List.all_cons,h,zzq15]
  ·rename_i h;simp [h]
theorem zmD {t:ByteArray} (h:t≠⟨#[]⟩):t.toList.isEmpty=false:=by
 rw [zzq14]
 cases hl:t.data.toList with
 |nil=>exact absurd (ByteArray.ext (by simpa using hl)) h
 |cons a l=>rfl
theorem zjW (l:List UInt8):(l.dropWhile (· ==0)).all (· ==0)=l.all (· ==0):=by
 induction l with
 |nil=>rfl
 |cons a l ih=>
  rw [List.dropWhile_cons];split
  ·rename_i h;rw [ih];simp only [List.all_cons,h,zzq15]
  ·rfl
theorem zp3 (l:List UInt8):Lib.trimB l 0= []↔l.all (· ==0)=true:=by
 unfold Lib.trimB Lib.trimLeftB Lib.trimRightB;rw [zj2,List.all_reverse,zjW,List.all_reverse]
theorem zlM (r:Nat) (rest:List UInt8) (lv:Value) (w:World) (h:fl_RdAt r rest lv w) (hm:rest.length<8):
  Calls Tryz.prog 31 #[.pointer (some ⟨r,0,none⟩)] w fun e w'=>(∃x y,e= .returned (.tuple #[.agg #[.string x,.string y],.bool false]))/\w.grownBy w' (some r):=by
 by_cases h4:rest.length<4
 ·go_in
  go_wp2_with fail;have hA:fl_RdAt r rest lv (w.alloc (.cells #[.string ⟨#[]⟩,.string ⟨#[]⟩] 46)):=h.below (zzE _ _);have hG:w.grownBy (w.alloc (.cells #[.string ⟨#[]⟩,.string ⟨#[]⟩] 46)) (some r):=zc8 (zzE _ _) _;have hC:(w.alloc (.cells #[.string ⟨#[]⟩,.string ⟨#[]⟩] 46)).heap[w.heap.size]?=some (.cells #[.string ⟨#[]⟩,.string ⟨#[]⟩] 46 (0,0)):=zzF _ _
  have hCr:w.heap.size≠r:=fun e=>absurd h.lt (by rw [e];exact Nat.lt_irrefl _)
  generalize w.alloc (.cells #[.string ⟨#[]⟩,.string ⟨#[]⟩] 46)=wa at *;have hCw:w.heap.size<=w.heap.size:=zzL _;generalize hCC:w.heap.size=C at hC hCr hCw ⊢;have c0:wa.cell? ⟨C,0,none⟩=some (.string ⟨#[]⟩):=by rw [zzq2 _ _ _ _ _ _ hC];rfl
  have c1:wa.cell? ⟨C,1,none⟩=some (.string ⟨#[]⟩):=by rw [zzq2 _ _ _ _ _ _ hC];rfl
  have f0:wa.frozen? ⟨C,0,none⟩=false:=Lib.frozen_of_heap hC 0;have f1:wa.frozen? ⟨C,1,none⟩=false:=Lib.frozen_of_heap hC 1;refine(zel r rest lv 4 4 rfl _ hA h4 (by omega)).mono ?_;rintro e w1 ⟨rfl,rfl⟩;go_wp2_with (go_at_call 29;refine(zht r rest lv _ hA h4).mono ?_;rintro e w1 ⟨rfl,rfl⟩);exact zz14
 ·have h4':(rest.drop 4).length<4:=by rw [List.length_drop];omega
  go_in;go_wp2_with fail;have hA:fl_RdAt r rest lv (w.alloc (.cells #[.string ⟨#[]⟩,.string ⟨#[]⟩] 46)):=h.below (zzE _ _);have hG:w.grownBy (w.alloc (.cells #[.string ⟨#[]⟩,.string ⟨#[]⟩] 46)) (some r):=zc8 (zzE _ _) _;have hC:(w.alloc (.cells #[.string ⟨#[]⟩,.string ⟨#[]⟩] 46)).heap[w.heap.size]?=some (.cells #[.string ⟨#[]⟩,.string ⟨#[]⟩] 46 (0,0)):=zzF _ _
  have hCr:w.heap.size≠r:=fun e=>absurd h.lt (by rw [e];exact Nat.lt_irrefl _)
  generalize w.alloc (.cells #[.string ⟨#[]⟩,.string ⟨#[]⟩] 46)=wa at *;have hCw:w.heap.size<=w.heap.size:=zzL _;generalize hCC:w.heap.size=C at hC hCr hCw ⊢;refine(zcs r rest lv 4 4 rfl _ hA (by omega) (by omega)).mono ?_;rintro e w1 ⟨rfl,h1,hg1⟩
  replace hG:=zbc hG hg1
  replace hC:=(hg1.block C (zbV hC) (fun e=>hCr (zzf e))).trans hC
  have c0:w1.cell? ⟨C,0,none⟩=some (.string ⟨#[]⟩):=by rw [zzq2 _ _ _ _ _ _ hC];rfl
  have c1:w1.cell? ⟨C,1,none⟩=some (.string ⟨#[]⟩):=by rw [zzq2 _ _ _ _ _ _ hC];rfl
  have f0:w1.frozen? ⟨C,0,none⟩=false:=Lib.frozen_of_heap hC 0;have f1:w1.frozen? ⟨C,1,none⟩=false:=Lib.frozen_of_heap hC 1;clear hg1;go_wp2_with (go_at_call 29;refine(zht r _ lv _ h1 h4').mono ?_;rintro e w2 ⟨rfl,rfl⟩);exact zz14
theorem zns (r:Nat) (rest:List UInt8) (lv:Value) (w:World) (h:fl_RdAt r rest lv w) (hm:8<=rest.length) (hz:rest.length<=9223372036854775807) (n:Nat) (hn:n=zdI ((rest.drop 4).take 4)) (hlt:rest.length<8+zbm n):
  Calls Tryz.prog 31 #[.pointer (some ⟨r,0,none⟩)] w fun e w'=>(∃x y,e= .returned (.tuple #[.agg #[.string x,.string y],.bool false]))/\w.grownBy w' (some r):=by
 have hnl:n<4294967296:=by rw [hn];exact zmc _
 have hp1:=(zcS n).1;have hp2:=(zcS n).2;have hpe:(((n:Int)+3)/4*4)=(zbm n:Int):=by unfold zbm;omega
 have hpad: ∀wx,Calls Tryz.prog 24 #[.int .i64 n] wx fun e w'=>e= .returned (.int .i64 (zbm n:Int))/\wx=w':=fun wx=>by
  have:=zfK n wx (by omega) (by omega);rw [hpe]at this;exact this
 clear hpe;have hl4:(rest.drop 4).length=rest.length-4:=List.length_drop;have hl8:((rest.drop 4).drop 4).length=rest.length-8:=by rw [List.length_drop,List.length_drop];omega
 have hnum: ∀wx,fl_RdAt r (rest.drop 4) lv wx->Calls Tryz.prog 29 #[.pointer (some ⟨r,0,none⟩)] wx fun e w'=>e= .returned (.tuple #[.int .i64 n,.bool true])/\fl_RdAt r ((rest.drop 4).drop 4) lv w'/\wx.grownBy w' (some r):=fun wx hx=>by
  have:=zhV r _ lv wx hx (by omega) (by omega);rw [<-hn]at this;exact this
 have hl9:(((rest.drop 4).drop 4).drop n).length=rest.length-8-n:=by rw [List.length_drop,hl8]
 generalize hP:zbm n=P at *;clear hn hP;go_in;go_wp2_with fail;have hA:fl_RdAt r rest lv (w.alloc (.cells #[.string ⟨#[]⟩,.string ⟨#[]⟩] 46)):=h.below (zzE _ _);have hG:w.grownBy (w.alloc (.cells #[.string ⟨#[]⟩,.string ⟨#[]⟩] 46)) (some r):=zc8 (zzE _ _) _;have hC:(w.alloc (.cells #[.string ⟨#[]⟩,.string ⟨#[]⟩] 46)).heap[w.heap.size]?=some (.cells #[.string ⟨#[]⟩,.string ⟨#[]⟩] 46 (0,0)):=zzF _ _
 have hCr:w.heap.size≠r:=fun e=>absurd h.lt (by rw [e];exact Nat.lt_irrefl _)
 generalize w.alloc (.cells #[.string ⟨#[]⟩,.string ⟨#[]⟩] 46)=wa at *;have hCw:w.heap.size<=w.heap.size:=zzL _;generalize hCC:w.heap.size=C at hC hCr hCw ⊢;refine(zcs r rest lv 4 4 rfl _ hA (by omega) (by omega)).mono ?_;rintro e w1 ⟨rfl,h1,hg1⟩
 replace hG:=zbc hG hg1
 replace hC:=(hg1.block C (zbV hC) (fun e=>hCr (zzf e))).trans hC
 go_wp2_with fail;refine(hnum _ h1).mono ?_;rintro e w2 ⟨rfl,h2,hg2⟩
 replace hG:=zbc hG hg2
 replace hC:=(hg2.block C (zbV hC) (fun e=>hCr (zzf e))).trans hC
 clear hg1 hg2 h1 hA hnum hl4 h;generalize(rest.drop 4).drop 4=D at *;generalize rest.take 4=nm at *;by_cases hd:rest.length-8<n
 ·go_wp2_with fail
  refine(zel r _ lv _ n rfl _ h2 (by omega) (by omega)).mono ?_;rintro e w3 ⟨rfl,rfl⟩;go_wp2_with (go_at_call 24;refine(hpad _).mono ?_;rintro e w4 ⟨rfl,rfl⟩);refine(zub r D lv _ (P-n) (by omega) _ h2 (by omega)).mono ?_;rintro e w4 ⟨s,bb,rfl,hg4⟩
  replace hG:=zbc hG hg4
  replace hC:=(hg4.block C (zbV hC) (fun e=>hCr (zzf e))).trans hC
  clear hg4 h2;have c0:w4.cell? ⟨C,0,none⟩=some (.string ⟨#[]⟩):=by rw [zzq2 _ _ _ _ _ _ hC];rfl
  have c1:w4.cell? ⟨C,1,none⟩=some (.string ⟨#[]⟩):=by rw [zzq2 _ _ _ _ _ _ hC];rfl
  have f0:w4.frozen? ⟨C,0,none⟩=false:=Lib.frozen_of_heap hC 0;have f1:w4.frozen? ⟨C,1,none⟩=false:=Lib.frozen_of_heap hC 1;go_wp2_with fail;have hC2:=zdX (i:=1) (zdX (i:=0) hC (.string ⟨nm.toArray⟩)) (.string ⟨#[]⟩);exact zz15
 ·go_wp2_with fail
  refine(zcs r _ lv _ n rfl _ h2 (by omega) (by omega)).mono ?_;rintro e w3 ⟨rfl,h3,hg3⟩
  replace hG:=zbc hG hg3
  replace hC:=(hg3.block C (zbV hC) (fun e=>hCr (zzf e))).trans hC
  clear hg3 h2;go_wp2_with (go_at_call 24;refine(hpad _).mono ?_;rintro e w4 ⟨rfl,rfl⟩);refine(zel r _ lv _ (P-n) (by omega) _ h3 (by omega) (by omega)).mono ?_;rintro e w4 ⟨rfl,rfl⟩;have c0:w4.cell? ⟨C,0,none⟩=some (.string ⟨#[]⟩):=by rw [zzq2 _ _ _ _ _ _ hC];rfl
  have c1:w4.cell? ⟨C,1,none⟩=some (.string ⟨#[]⟩):=by rw [zzq2 _ _ _ _ _ _ hC];rfl
  have f0:w4.frozen? ⟨C,0,none⟩=false:=Lib.frozen_of_heap hC 0;have f1:w4.frozen? ⟨C,1,none⟩=false:=Lib.frozen_of_heap hC 1;go_wp2_with fail;have hC2:=zdX (i:=1) (zdX (i:=0) hC (.string ⟨nm.toArray⟩)) (.string ⟨(D.take n).toArray⟩);exact zz15
theorem zm1 (r:Nat) (rest:List UInt8) (lv:Value) (w:World) (h:fl_RdAt r rest lv w) (hm:8<=rest.length) (hz:rest.length<=9223372036854775807) (n:Nat) (hn:n=zdI ((rest.drop 4).take 4)) (hlt:8+zbm n<=rest.length):
  Calls Tryz.prog 31 #[.pointer (some ⟨r,0,none⟩)] w fun e w'=>e= .returned (.tuple #[.agg #[.string ⟨(rest.take 4).toArray⟩,.string ⟨((rest.drop 8).take n).toArray⟩],.bool (((rest.drop (8+n)).take (zbm n-n)).all (· ==0))])/\fl_RdAt r (rest.drop (8+zbm n)) lv w'/\w.grownBy w' (some r):=by
 have hnl:n<4294967296:=by rw [hn];exact zmc _
 have hp1:=(zcS n).1;have hp2:=(zcS n).2;have hpe:(((n:Int)+3)/4*4)=(zbm n:Int):=by unfold zbm;omega
 have hpad: ∀wx,Calls Tryz.prog 24 #[.int .i64 n] wx fun e w'=>e= .returned (.int .i64 (zbm n:Int))/\wx=w':=fun wx=>by
  have:=zfK n wx (by omega) (by omega);rw [hpe]at this;exact this
 clear hpe;have hl4:(rest.drop 4).length=rest.length-4:=List.length_drop;have hl8:((rest.drop 4).drop 4).length=rest.length-8:=by rw [List.length_drop,List.length_drop];omega
 have hnum: ∀wx,fl_RdAt r (rest.drop 4) lv wx->Calls Tryz.prog 29 #[.pointer (some ⟨r,0,none⟩)] wx fun e w'=>e= .returned (.tuple #[.int .i64 n,.bool true])/\fl_RdAt r ((rest.drop 4).drop 4) lv w'/\wx.grownBy w' (some r):=fun wx hx=>by
  have:=zhV r _ lv wx hx (by omega) (by omega);rw [<-hn]at this;exact this
 have hl9:(((rest.drop 4).drop 4).drop n).length=rest.length-8-n:=by rw [List.length_drop,hl8]
 have e8:rest.drop 8=(rest.drop 4).drop 4:=by rw [List.drop_drop]
 have en:rest.drop (8+n)=((rest.drop 4).drop 4).drop n:=by rw [<-e8,List.drop_drop]
 have ep:rest.drop (8+zbm n)=(((rest.drop 4).drop 4).drop n).drop (zbm n-n):=by rw [<-en,List.drop_drop];congr 1;omega
 rw [e8,en,ep];clear e8 en ep;have htk: ∀wx,fl_RdAt r rest lv wx->Calls Tryz.prog 28 #[.pointer (some ⟨r,0,none⟩),.int .i64 4] wx fun e w'=>e= .returned (.tuple #[.string ⟨(rest.take 4).toArray⟩,.bool true])/\fl_RdAt r (rest.drop 4) lv w'/\wx.grownBy w' (some r):=fun wx hx=>zcs r rest lv 4 4 rfl wx hx (by omega) (by omega)
 generalize(rest.drop 4).drop 4=D at *;generalize rest.take 4=nm at *;generalize hP:zbm n=P at *;clear hn hP;go_in;go_wp2_with fail;have hA:fl_RdAt r rest lv (w.alloc (.cells #[.string ⟨#[]⟩,.string ⟨#[]⟩] 46)):=h.below (zzE _ _);have hG:w.grownBy (w.alloc (.cells #[.string ⟨#[]⟩,.string ⟨#[]⟩] 46)) (some r):=zc8 (zzE _ _) _;have hC:(w.alloc (.cells #[.string ⟨#[]⟩,.string ⟨#[]⟩] 46)).heap[w.heap.size]?=some (.cells #[.string ⟨#[]⟩,.string ⟨#[]⟩] 46 (0,0)):=zzF _ _
 have hCr:w.heap.size≠r:=fun e=>absurd h.lt (by rw [e];exact Nat.lt_irrefl _)
 generalize w.alloc (.cells #[.string ⟨#[]⟩,.string ⟨#[]⟩] 46)=wa at *;have hCw:w.heap.size<=w.heap.size:=zzL _;generalize hCC:w.heap.size=C at hC hCr hCw ⊢;refine(htk _ hA).mono ?_;rintro e w1 ⟨rfl,h1,hg1⟩
 replace hG:=zbc hG hg1
 replace hC:=(hg1.block C (zbV hC) (fun e=>hCr (zzf e))).trans hC
 go_wp2_with fail;refine(hnum _ h1).mono ?_;rintro e w2 ⟨rfl,h2,hg2⟩
 replace hG:=zbc hG hg2
 replace hC:=(hg2.block C (zbV hC) (fun e=>hCr (zzf e))).trans hC
 clear hg1 hg2 h1 hA hnum hl4 h;go_wp2_with fail;refine(zcs r _ lv _ n rfl _ h2 (by omega) (by omega)).mono ?_;rintro e w3 ⟨rfl,h3,hg3⟩
 replace hG:=zbc hG hg3
 replace hC:=(hg3.block C (zbV hC) (fun e=>hCr (zzf e))).trans hC
 clear hg3 h2;go_wp2_with (go_at_call 24;refine(hpad _).mono ?_;rintro e w4 ⟨rfl,rfl⟩);refine(zcs r _ lv _ (P-n) (by omega) _ h3 (by omega) (by omega)).mono ?_;rintro e w4 ⟨rfl,h4,hg4⟩
 replace hG:=zbc hG hg4
 replace hC:=(hg4.block C (zbV hC) (fun e=>hCr (zzf e))).trans hC
 clear hg4 h3;have c0:w4.cell? ⟨C,0,none⟩=some (.string ⟨#[]⟩):=by rw [zzq2 _ _ _ _ _ _ hC];rfl
 have c1:w4.cell? ⟨C,1,none⟩=some (.string ⟨#[]⟩):=by rw [zzq2 _ _ _ _ _ _ hC];rfl
 have f0:w4.frozen? ⟨C,0,none⟩=false:=Lib.frozen_of_heap hC 0;have f1:w4.frozen? ⟨C,1,none⟩=false:=Lib.frozen_of_heap hC 1;have hta:=zp3 ((D.drop n).take (P-n))
 have hsz:(⟨((D.drop n).take (P-n)).toArray⟩:ByteArray).size<=9223372036854775807:=by
  show((D.drop n).take (P-n)).toArray.size<=_;rw [List.size_toArray,List.length_take];omega
 have htr:=fun wx=>Tryz.strings_Trim_one ⟨((D.drop n).take (P-n)).toArray⟩ 0 (by decide) wx hsz
 replace htr: ∀wx,Calls Tryz.prog 67 #[.string ⟨((D.drop n).take (P-n)).toArray⟩,.string ⟨#[0]⟩] wx fun e w'=>e= .returned (.string ⟨(Lib.trimB ((D.drop n).take (P-n)) 0).toArray⟩)/\(w'=wx\/w'=wx.drew):=htr
 cases hall:((D.drop n).take (P-n)).all (· ==0)with
 |true=>
  rw [hta.2 hall]at htr;clear hta;go_wp2_with fail;refine(htr _).mono ?_;rintro e w5 ⟨rfl,hw5⟩;have hG5:w.grownBy w5 (some r):=hw5.elim (fun e=>e▸hG) (fun e=>e▸ze1 hG);have h45:fl_RdAt r ((D.drop n).drop (P-n)) lv w5:=by rcases hw5 with rfl|rfl<;>exact h4
  have hC5:w5.heap[C]?=some (.cells #[.string ⟨#[]⟩,.string ⟨#[]⟩] 46 (0,0)):=by rcases hw5 with rfl|rfl<;>exact hC
  clear hG h4 hC c0 c1 f0 f1 hw5;have hG:=hG5;have h4:=h45;have hC:=hC5;clear hG5 h45 hC5;have c0:w5.cell? ⟨C,0,none⟩=some (.string ⟨#[]⟩):=by rw [zzq2 _ _ _ _ _ _ hC];rfl
  have c1:w5.cell? ⟨C,1,none⟩=some (.string ⟨#[]⟩):=by rw [zzq2 _ _ _ _ _ _ hC];rfl
  have f0:w5.frozen? ⟨C,0,none⟩=false:=Lib.frozen_of_heap hC 0;have f1:w5.frozen? ⟨C,1,none⟩=false:=Lib.frozen_of_heap hC 1;go_wp2_with fail;have hC2:=zdX (i:=1) (zdX (i:=0) hC (.string ⟨nm.toArray⟩)) (.string ⟨(D.take n).toArray⟩);refine zzj (zdq rfl _ _ _ C _ _ _ _ rfl hC2 Tryz.underlying46 (by kernel_rfl)) rfl ?_;exact⟨zm6 rfl (congrArg Value.bool hall.symm),zhw (zhw h4 hCr _) hCr _,zcO (zcO hG (by omega) _) (by omega) _⟩
 |false=>
  have hne:Lib.trimB ((D.drop n).take (P-n)) 0≠ []:=fun e=>by rw [hta.1 e]at hall;cases hall
  have hnb:(⟨(Lib.trimB ((D.drop n).take (P-n)) 0).toArray⟩:ByteArray)≠⟨#[]⟩:=fun e=>hne (by have:=congrArg (fun b:ByteArray=>b.data.toList) e;simpa using this)
  clear hta hne;generalize(⟨(Lib.trimB ((D.drop n).take (P-n)) 0).toArray⟩:ByteArray)=t at *;go_wp2_with fail;refine(htr _).mono ?_;rintro e w5 ⟨rfl,hw5⟩;have hG5:w.grownBy w5 (some r):=hw5.elim (fun e=>e▸hG) (fun e=>e▸ze1 hG);have h45:fl_RdAt r ((D.drop n).drop (P-n)) lv w5:=by rcases hw5 with rfl|rfl<;>exact h4
  have hC5:w5.heap[C]?=some (.cells #[.string ⟨#[]⟩,.string ⟨#[]⟩] 46 (0,0)):=by rcases hw5 with rfl|rfl<;>exact hC
  clear hG h4 hC c0 c1 f0 f1 hw5;have hG:=hG5;have h4:=h45;have hC:=hC5;clear hG5 h45 hC5;have c0:w5.cell? ⟨C,0,none⟩=some (.string ⟨#[]⟩):=by rw [zzq2 _ _ _ _ _ _ hC];rfl
  have c1:w5.cell? ⟨C,1,none⟩=some (.string ⟨#[]⟩):=by rw [zzq2 _ _ _ _ _ _ hC];rfl
  have f0:w5.frozen? ⟨C,0,none⟩=false:=Lib.frozen_of_heap hC 0;have f1:w5.frozen? ⟨C,1,none⟩=false:=Lib.frozen_of_heap hC 1;go_wp2_with fail;have hC2:=zdX (i:=1) (zdX (i:=0) hC (.string ⟨nm.toArray⟩)) (.string ⟨(D.take n).toArray⟩);refine zzj (zdq rfl _ _ _ C _ _ _ _ rfl hC2 Tryz.underlying46 (by kernel_rfl)) rfl ?_;exact⟨zm6 rfl (congrArg Value.bool ((zmD hnb).trans hall.symm)),zhw (zhw h4 hCr _) hCr _,zcO (zcO hG (by omega) _) (by omega) _⟩
theorem zoz (r:Nat) (rest:List UInt8) (lv:Value) (w:World) (h:fl_RdAt r rest lv w) (hz:rest.length<=9223372036854775807):
  Calls Tryz.prog 31 #[.pointer (some ⟨r,0,none⟩)] w fun e w'=>(match zdz rest with
   |none=> ∃x y,e= .returned (.tuple #[.agg #[.string x,.string y],.bool false])
   |some (nm,dt,r')=>e= .returned (.tuple #[.agg #[.string ⟨nm.toArray⟩,.string ⟨dt.toArray⟩],.bool true])/\fl_RdAt r r' lv w')/\w.grownBy w' (some r):=by
 unfold zdz;by_cases h8:rest.length<8
 ·rw [if_pos h8]
  exact zlM r rest lv w h h8
 ·rw [if_neg h8]
  generalize hn:zdI ((rest.drop 4).take 4)=n;by_cases hp:rest.length<8+zbm n
  ·rw [if_pos hp]
   exact zns r rest lv w h (by omega) hz n hn.symm hp
  ·rw [if_neg hp]
   refine(zm1 r rest lv w h (by omega) hz n hn.symm (by omega)).mono ?_;rintro e w' ⟨rfl,hr,hg⟩
   cases hall:((rest.drop (8+n)).take (zbm n-n)).all (· ==0)with
   |true=>rw [if_pos rfl];exact⟨⟨rfl,hr⟩,hg⟩
   |false=>rw [if_neg (by decide)];exact⟨⟨_,_,rfl⟩,hg⟩
open Go.RowKit Go.Shelf Go.Lib
def zdA (l:List Ch):List Value:=l.flatMap zh6
def znd (r:Nat) (w:World):Nat:=match w.cell? ⟨r,1,none⟩with
 |some (.slice _ n _)=>n
 |_=>0
theorem zdl {a b:World} {o:Option Nat} (h:a.grownBy b o) (x:Obj):a.grownBy (b.alloc x) o:=
 zbc h (zc8 (zzE _ _) _)
theorem ziH {w0 w:World} {e:TypeId} {size:Nat} {v:Value} {n r:Nat} {xs:List Value} (h:w.ownsRow w0.heap.size e size v n xs) (hr:r<w0.heap.size):v.ownBlock=none\/v.ownBlock≠some r:=by
 right;intro he;have:=(h.lt r he).1;omega
theorem zbX {w w':World} {B:Nat} {e:TypeId} {size:Nat} {v:Value} {n:Nat} {xs:List Value} (h:w.ownsRow B e size v n xs) (hb:Below w.heap.size w w'):w'.ownsRow B e size v n xs:=by
 refine⟨h.1,?_⟩;rcases h.2 with hn|⟨g,cap,cur,rfl,hB,hg,hr⟩
 ·exact .inl hn
 ·exact .inr ⟨g,cap,cur,rfl,hB,(hb.block g (zbV hg)).trans hg,hr⟩
theorem zpA:(Tryz.prog.info? 46).map (fun i=>(i.zero,i.size,i.bytes))=some (some (.agg #[.string ⟨#[]⟩,.string ⟨#[]⟩]),2,32):=by kernel_rfl
theorem zlT (l:List Ch) (a b:ByteArray):zdA (l++ [(a,b)])=zdA l++ [.string a,.string b]:=by simp [zdA,zh6]
theorem zi1 {a b c:World} {r:Nat} {o:Option Nat} (h:a.grownBy b (some r)) (h':b.grownBy c o) (ho: ∀k,o=some k->a.heap.size<=k):a.grownBy c (some r):=
 ⟨h'.os.trans h.os,h'.tape.trans h.tape,h'.output.trans h.output,zzY h.size h'.size,fun k hk hn=>(h'.block k (zzW hk h.size) (fun e=>by have:=ho k e.symm;omega)).trans (h.block k hk hn)⟩
theorem zhM {w:World} {B:Nat} {e:TypeId} {size:Nat} {v:Value} {n:Nat} {xs:List Value} (h:w.ownsRow B e size v n xs): ∃ao cap,v= .slice ao n cap:=by
 exact zz16
theorem zkE {r:Nat} {rest:List UInt8} {ao:zzA} {n cap:Nat} {w:World} (h:fl_RdAt r rest (.slice ao n cap) w):znd r w=n:=by
 unfold znd;rw [h.c1]
theorem zsh (r:Nat) (rest:List UInt8) (w:World) (h:fl_RdAt r rest (.slice none 0 0) w) (hz:rest.length<=16777216):
  Calls Tryz.prog 30 #[.pointer (some ⟨r,0,none⟩),.func (.func 31) #[.pointer (some ⟨r,0,none⟩)] #[]] w fun e w'=>(match zer 17 [] rest with
   |none=>e= .returned (.bool false)
   |some l=>e= .returned (.bool true)/\ ∃r' lv,fl_RdAt r r' lv w'/\w'.ownsRow w.heap.size 46 2 lv l.length (zdA l))/\w.grownBy w' (some r):=by
 generalize hX:zer 17 [] rest=X;have hrw:=h.lt;go_in;go_wp2_with fail;go_loopw [4] (fun f wr=>f= .bool false/\ ∃(acc:List Ch) (rest':List UInt8) (lv:Value),acc.length<=17/\zer (17-acc.length) acc rest'=X/\rest'.length<=16777216/\fl_RdAt r rest' lv wr/\wr.ownsRow w.heap.size 46 2 lv acc.length (zdA acc)/\w.grownBy wr (some r)) (fun _ wr=>17-znd r wr)
 case atStart=>exact⟨rfl,[],rest,_,zzZ _,hX,hz,h,World.ownsRow_nil _ _ _ _,zgk _ _⟩
 case round=>
  obtain⟨rfl,acc,rest',lv,hlen,hall,hzr,hrd,hown,hg⟩:=hrel;obtain⟨ao,cap,rfl⟩:=zhM hown;have c1:=hrd.c1;by_cases hlt:acc.length<=16
  ·obtain⟨k,hk⟩: ∃k,17-acc.length=k+1:=⟨16-acc.length,by omega⟩
   have hca:=fun wx hx=>zoz r rest' (.slice ao acc.length cap) wx hx (by omega)
   rw [hk]at hall
   cases hcp:zdz rest' with
   |none=>
    rw [zjT hcp]at hall;subst hall;rw [hcp]at hca;go_wp2_with (go_at_call 31;refine(hca _ hrd).mono ?_;rintro e w1 ⟨⟨x,y,rfl⟩,hg1⟩);go_ret;exact⟨rfl,zdl (zbc hg hg1) _⟩
   |some p=>
    obtain⟨nm,dt,r'⟩:=p;rw [hcp]at hca;have hlr:=zm0 hcp;have hds:(⟨dt.toArray⟩:ByteArray).size=dt.length:=by show dt.toArray.size=_;simp
    go_wp2_with fail;refine(hca _ hrd).mono ?_;rintro e w1 ⟨⟨rfl,hrd1⟩,hg1⟩;have hrA:fl_RdAt r r' (.slice ao acc.length cap) (w1.alloc (.cells #[.string ⟨nm.toArray⟩,.string ⟨dt.toArray⟩] 46)):=hrd1.below (zzE _ _);have d0:=hrA.c0;have d1:=hrA.c1;have e1:=hrA.f1;have hg2:=zbc hg hg1;have hown1:=hown.kept hg1 (ziH hown hrw);by_cases hnm:nm=CSUM
    ·subst hnm
     rw [zhn hcp]at hall;by_cases h4:dt.length=4
     ·have h4i:((dt.length:Int)==4)=true:=by rw [h4];rfl
      by_cases hr0:r'= []
      ·rw [if_pos ⟨h4,hr0⟩]at hall
       subst hr0;subst hall;go_wp2;go_ret;exact⟨⟨rfl,_,_,hrd1.below (zzE _ _),zbX hown1 (zzE _ _)⟩,zdl hg2 _⟩
      ·have hre:r'.isEmpty=false:=by cases r' with|nil=>exact absurd rfl hr0|cons=>rfl
       rw [if_neg (fun h=>hr0 h.2)]at hall;subst hall;go_wp2;go_ret;exact⟨rfl,zdl hg2 _⟩
     ·have h4i: ¬(dt.length:Int)=4:=by omega
      rw [if_neg (fun h=>h4 h.1)]at hall;subst hall;go_wp2;go_ret;exact⟨rfl,zdl hg2 _⟩
    ·rw [zg9 hcp hnm]at hall
     have hnl:(nm== [67,83,85,77])=false:=by
      cases hb:nm== [67,83,85,77]with
      |false=>rfl
      |true=>exact absurd (eq_of_beq hb) hnm
     go_upto_region 7 with fail;have hCr:w1.heap.size≠r:=fun e=>absurd hrd1.lt (by rw [e];exact Nat.lt_irrefl _)
     have hownA:=zbX hown1 ((zzR w1.heap.size w1).alloc (zzL _) (.cells #[.string ⟨nm.toArray⟩,.string ⟨dt.toArray⟩] 46));have hgA:=zdl hg2 (.cells #[.string ⟨nm.toArray⟩,.string ⟨dt.toArray⟩] 46);have hCA:(w1.alloc (.cells #[.string ⟨nm.toArray⟩,.string ⟨dt.toArray⟩] 46)).heap[w1.heap.size]?=some (.cells #[.string ⟨nm.toArray⟩,.string ⟨dt.toArray⟩] 46 (0,0)):=zzF _ _
     have hCw:w.heap.size<=w1.heap.size:=hg2.size;have hlo: ∀k,(Value.slice ao acc.length cap).ownBlock=some k->w.heap.size<=k/\k<w1.heap.size:=hown1.lt;generalize w1.alloc (.cells #[.string ⟨nm.toArray⟩,.string ⟨dt.toArray⟩] 46)=wa at *;generalize w1.heap.size=C at *;have k0:wa.cell? ⟨C,0,none⟩=some (.string ⟨nm.toArray⟩):=by rw [zzq2 _ _ _ _ _ _ hCA];rfl
     have k1:wa.cell? ⟨C,1,none⟩=some (.string ⟨dt.toArray⟩):=by rw [zzq2 _ _ _ _ _ _ hCA];rfl
     have hCl:=zbV hCA;obtain⟨i0,hi,hz0,hz1,hz2⟩:=info_parts zpA;have hbO:=(zzR wa.heap.size wa).alloc (zzL _) (.cells #[.string ⟨nm.toArray⟩,.string ⟨dt.toArray⟩] 46);have k2:(wa.alloc (.cells #[.string ⟨nm.toArray⟩,.string ⟨dt.toArray⟩] 46)).drew.cell? ⟨C,0,none⟩=some (.string ⟨nm.toArray⟩):=(hbO.cell (p:=⟨C,0,none⟩) hCl).trans k0;have k3:(wa.alloc (.cells #[.string ⟨nm.toArray⟩,.string ⟨dt.toArray⟩] 46)).drew.cell? ⟨C,1,none⟩=some (.string ⟨dt.toArray⟩):=(hbO.cell (p:=⟨C,1,none⟩) hCl).trans k1;have k4a:fl_RdAt r r' (.slice ao acc.length cap) (wa.alloc (.cells #[.string ⟨nm.toArray⟩,.string ⟨dt.toArray⟩] 46)):=hrA.below hbO;have k4:fl_RdAt r r' (.slice ao acc.length cap) (wa.alloc (.cells #[.string ⟨nm.toArray⟩,.string ⟨dt.toArray⟩] 46)).drew:=k4a;have hgO:w.grownBy (wa.alloc (.cells #[.string ⟨nm.toArray⟩,.string ⟨dt.toArray⟩] 46)).drew (some r):=ze1 (zdl hgA _);have k5:=k4.c1;have hrO:some r≠(Value.slice ao acc.length cap).ownBlock:=fun e=>by have:=(hlo r e.symm).1;omega
     have hCO:some C≠(Value.slice ao acc.length cap).ownBlock:=fun e=>by have:=(hlo C e.symm).2;omega
     go_region_law (refine step_append_lies _ rfl (.tmp 38) (.tmp 40) 47 rfl w.heap.size 46 i0 _ 2 32 Tryz.underlying47 hi hz0 hz1 hz2 rfl (by decide) (.slice ao acc.length cap) acc.length (zdA acc) rfl (zbX hownA ((zzR _ _).drew.alloc (zzL _) _)) ⟨wa.heap.size,0,none⟩ 1 1 [.string ⟨nm.toArray⟩,.string ⟨dt.toArray⟩] rfl rfl (World.news_of_block (zzF _ _)) (by simp [Value.oneCell']) (by decide) (by unfold maxLen;omega) (by omega) (by simp;have:=hgA.size;omega) _ rfl ?_;intro g cap' w9 hown9 hgrow hat hlt9;have q0:w9.cell? ⟨C,0,none⟩=some (.string ⟨nm.toArray⟩):=hgrow.cell k2 hCO;have q1:w9.cell? ⟨C,1,none⟩=some (.string ⟨dt.toArray⟩):=hgrow.cell k3 hCO;have q2:fl_RdAt r r' (.slice ao acc.length cap) w9:=(hgrow.block r k4.lt hrO).trans k4;have q3:=q2.c1;have q4:=q2.f1;have q5:=zi1 hgO hgrow (fun k e=>(hlo k e).1))
     all_goals(go_wp2_with fail;go_roundw)
     all_goals(first
      |exact⟨rfl,acc++ [(⟨nm.toArray⟩,⟨dt.toArray⟩)],r',_,by rw [zzq1];exact Nat.succ_le_succ hlt,by rw [zzq1,show 17-(acc.length+ [((⟨nm.toArray⟩,⟨dt.toArray⟩):Ch)].length)=k from by simp;omega];exact hall,by omega,q2.set1 _,by rw [zzq1,zlT];exact hown9.kept (zfe _ _ _ _) (ziH hown9 hrw),zbc q5 (zfe _ _ _ _)⟩
      |(rw [zkE hrd,zkE (q2.set1 _)];omega))
  ·have hk:17-acc.length=0:=by omega
   rw [hk]at hall;have hX0:X=none:=by rw [<-hall];rfl
   subst hX0;go_wp2;go_ret;exact⟨rfl,hg⟩
abbrev Dec (α:Type):=List UInt8->Option (α × List UInt8)
def vR:Nat->Bool->Dec Nat
 |0,_,_=>none
 |_+1,_,[]=>none
 |k+1,b,c::l=>if c.toNat<128 then(if c.toNat=0/\b=false then none else some (c.toNat,l))else(vR k false l).bind fun x=>some (c.toNat-128+128*x.1,x.2)
def vD:Dec Nat:=vR 6 true
def zbs:Dec Int:=fun l=>(vD l).bind fun x=>some ((x.1:Int),x.2)
def zb7:Dec RArg:=fun l=>(vD l).bind fun x=>some (⟨((x.1%4:Nat):Int),((x.1/4:Nat):Int)⟩,x.2)
def zek:Dec Bool:=fun l=>(vD l).bind fun x=>if x.1<=1 then some (decide (x.1=1),x.2)else none
def zcw:Dec ByteArray:=fun l=>(vD l).bind fun x=>zcz x.1 x.2
def zb2 {α:Type} (one:Dec α):Nat->Dec (List α)
 |0,l=>some ([],l)
 |n+1,l=>(one l).bind fun x=>(zb2 one n x.2).bind fun y=>some (x.1::y.1,y.2)
def zV {α:Type} (one:Dec α):Dec (List α):=fun l=>(vD l).bind fun x=>zb2 one x.1 x.2
def zdf {α:Type} (b:Bool) (one:Dec α) (z:α):Dec α:=fun l=>if b=true then one l else some (z,l)
def zcx:Dec RCase:=fun l=>(zbs l).bind fun x=>(zbs x.2).bind fun y=>some (⟨x.1,y.1⟩,y.2)
def zdg:Dec RSeg:=fun l=>(zbs l).bind fun x=>(zb7 x.2).bind fun y=>(zb7 y.2).bind fun z=>(zek z.2).bind fun q=>some (⟨x.1,y.1,z.1,q.1⟩,q.2)
def zcD:Dec RFunc:=fun l=>(zcw l).bind fun x=>(zbs x.2).bind fun y=>(zek y.2).bind fun z=>(zbs z.2).bind fun q=>some (⟨x.1,y.1,z.1,q.1⟩,q.2)
def fnD:Dec RFun:=fun l=>(zbs l).bind fun x=>(zbs x.2).bind fun y=>(zbs y.2).bind fun z=>some (⟨x.1,y.1,z.1⟩,z.2)
def ziR (op:Int) (h:Nat):Dec RIns:=fun l=>
 (zdf (zm h 1) zb7 ⟨0,0⟩ l).bind fun d=>(zdf (zm h 2) (zV zb7) [] d.2).bind fun s=>(zdf (zm h 4) zbs 0 s.2).bind fun n=>(zdf (zm h 8) zcw ⟨#[]⟩ n.2).bind fun m=>
  (zdf (zm h 16) (zV zcx) [] m.2).bind fun c=>(zdf (zm h 32) (zV zdg) [] c.2).bind fun g=>(zdf (zm h 64) zbs 0 g.2).bind fun t=>(zdf (zm h 128) zbs 0 t.2).bind fun v=>
   some (⟨op,d.1,s.1,t.1,n.1,v.1,m.1,c.1,g.1⟩,v.2)
def zcr:Dec RIns:=fun l=>(zbs l).bind fun o=>if 1<=o.1/\o.1<=40 then ziR o.1 (zr o.1).1.toNat o.2 else none
def zcG (l:List UInt8):Option (Tm × List UInt8):=(zy 2000 0 l).bind fun x=>if zA 2000 x.1.1=true then some (x.1.1,x.2)else none
def zew:List UInt8->Option Tm
 |[]=>none
 |c::l=>if c.toNat=131 then(zcG l).bind fun x=>if x.2= []then some x.1 else none else none
def zdh:Dec Tm:=fun l=>(zcw l).bind fun x=>(zew x.1.data.toList).bind fun t=>some (t,x.2)
def zgF:Dec RUnit:=fun l=>
 (zcw l).bind fun m=>(zbs m.2).bind fun v=>(zV zdh v.2).bind fun a=>(zV zcD a.2).bind fun b=>(zV fnD b.2).bind fun c=>(zV zcr c.2).bind fun d=>
  some (⟨m.1,v.1,a.1,b.1,c.1,d.1⟩,d.2)
def zdy (l:List UInt8):Option RUnit:=(zgF l).bind fun x=>if x.2= []/\zZ 2000 x.1=0 then some x.1 else none
def zbU (f:Nat) (t:Tm):ByteArray:=⟨(zc9 f t).toArray⟩
theorem zn8: ∀(k:Nat) (b:Bool) (l:List UInt8) (n:Nat) (l':List UInt8),vR k b l=some (n,l')-> ∀g,k<=g->l=zb3 g n++l'/\n<128^k/\(b=false->0<n)
 |0,b,l,n,l',h,_,_=>absurd h (by simp [vR])
 |k+1,b,[],n,l',h,_,_=>absurd h (by simp [vR])
 |k+1,b,c::l,n,l',h,g,hg=>by
  obtain⟨g,rfl⟩: ∃g',g=g'+1:=⟨g-1,by omega⟩;have hp:=Nat.pow_pos (n:=k) (show 0<128 by omega);have hc:=c.toNat_lt;rw [Nat.pow_succ];unfold vR at h;split at h
  ·next c1=>
   split at h
   ·exact zz83
   ·next c2=>
    simp only [zzX0]at h;obtain⟨rfl,rfl⟩:=h;unfold zb3;rw [if_pos c1,UInt8.ofNat_toNat];refine⟨rfl,by omega,fun e=>?_⟩;have: ¬c.toNat=0:=fun e2=>c2 ⟨e2,e⟩
    omega
  ·next c1=>
   obtain⟨x,hx,h⟩:=zzO.1 h;simp only [zzX0]at h;obtain⟨rfl,rfl⟩:=h;obtain⟨h1,h2,h3⟩:=zn8 k false l x.1 x.2 hx g (by omega);have h3:=h3 rfl;unfold zb3;rw [if_neg (by omega),show(c.toNat-128+128*x.1)/128=x.1 by omega,show(c.toNat-128+128*x.1)%128+128=c.toNat by omega,UInt8.ofNat_toNat];exact⟨by rw [List.cons_append,<-h1],by omega,fun _=>by omega⟩
theorem zoj: ∀(k:Nat) (b:Bool) (n:Nat) (l:List UInt8),n<128^k->(b=false->0<n)->0<k-> ∀g,k<=g->vR k b (zb3 g n++l)=some (n,l)
 |0,b,n,l,_,_,h,_,_=>absurd h (by omega)
 |k+1,b,n,l,hn,hb,_,g,hg=>by
  obtain⟨g,rfl⟩: ∃g',g=g'+1:=⟨g-1,by omega⟩;rw [Nat.pow_succ]at hn;unfold zb3;split
  ·next c=>
   have e:(UInt8.ofNat n).toNat=n:=by rw [UInt8.toNat_ofNat'];omega
   show vR (k+1) b (UInt8.ofNat n::l)=_;unfold vR;rw [e,if_pos c,if_neg];intro hh;have:=hb hh.2;omega
  ·next c=>
   have e:(UInt8.ofNat (n%128+128)).toNat=n%128+128:=by rw [UInt8.toNat_ofNat'];omega
   show vR (k+1) b (UInt8.ofNat (n%128+128)::(zb3 g (n/128)++l))=_
   have hk:0<k:=by
    rcases Nat.eq_zero_or_pos k with h|h
    ·rw [h]at hn;omega
    ·exact h
   unfold vR;rw [e,if_neg (by omega),zoj k false (n/128) l (by omega) (fun _=>by omega) hk g (by omega),zzq0];simp only [Option.some.injEq,Prod.mk.injEq,and_true];omega
theorem zgs {l l':List UInt8} {n:Nat} (h:vD l=some (n,l')):l=zf n++l'/\n<4398046511104:=by
 have:=zn8 6 true l n l' h 10 (by omega);exact⟨this.1,this.2.1⟩
theorem zgp {n:Nat} (l:List UInt8) (h:n<4398046511104):vD (zf n++l)=some (n,l):=zoj 6 true n l h (fun e=>by cases e) (by omega) 10 (by omega)
theorem zdx {l l':List UInt8} {n:Int} (h:zbs l=some (n,l')):l=zf n.toNat++l'/\0<=n/\n<4398046511104:=by
 unfold zbs at h;obtain⟨x,hx,h⟩:=zzO.1 h;simp only [zzX0]at h;obtain⟨rfl,rfl⟩:=h;have:=zgs hx;exact⟨this.1,by omega,by omega⟩
theorem zcI {n:Int} (l:List UInt8) (h0:0<=n) (h:n<4398046511104):zbs (zf n.toNat++l)=some (n,l):=by
 unfold zbs;rw [zgp l (by omega),zzq0];simp only [Option.some.injEq,Prod.mk.injEq,and_true];omega
theorem zfk {l l':List UInt8} {a:RArg} (h:zb7 l=some (a,l')):l=zbG a++l'/\0<=a.kind/\a.kind<=3/\0<=a.n/\a.n<4398046511104:=by
 unfold zb7 at h;obtain⟨x,hx,h⟩:=zzO.1 h;simp only [zzX0]at h;obtain⟨rfl,rfl⟩:=h;have:=zgs hx;refine⟨?_,by simp only;omega,by simp only;omega,by simp only;omega,by simp only;omega⟩;unfold zbG;rw [show(4*((x.1/4:Nat):Int)+((x.1%4:Nat):Int)).toNat=x.1 by omega];exact this.1
theorem zgX {a:RArg} (l:List UInt8) (h:WArg a):zb7 (zbG a++l)=some (a,l):=by
 obtain⟨k,n⟩:=a;obtain⟨h1,h2,h3,h4⟩:=h;simp only at h1 h2 h3 h4;unfold zb7 zbG;rw [zgp l (by simp only;omega),zzq0];simp only [Option.some.injEq,Prod.mk.injEq,and_true,RArg.mk.injEq];omega
theorem zjb {l l':List UInt8} {a:Bool} (h:zek l=some (a,l')):l=zde a++l':=by
 unfold zek at h;obtain⟨x,hx,h⟩:=zzO.1 h;split at h
 ·simp only [zzX0]at h
  obtain⟨rfl,rfl⟩:=h;have:=zgs hx;unfold zde;by_cases c:x.1=1
  ·rw [decide_eq_true c,if_pos rfl,<-c];exact this.1
  ·rw [decide_eq_false c,if_neg (by simp),<-show x.1=0 by omega];exact this.1
 ·exact zz83
theorem zjO (a:Bool) (l:List UInt8):zek (zde a++l)=some (a,l):=by
 unfold zek zde
 cases a
 ·rw [zgp l (by simp),zzq0];rfl
 ·rw [zgp l (by simp),zzq0];rfl
theorem zfu {l l':List UInt8} {a:ByteArray} (h:zcw l=some (a,l')):l=zD a++l'/\a.size<4398046511104:=by
 unfold zcw at h;obtain⟨x,hx,h⟩:=zzO.1 h;have e1:=zgs (n:=x.1) (l':=x.2) hx;have e2:=zez h;unfold zD;rw [e2.2,zzq4,<-e2.1];exact e1
theorem zge {a:ByteArray} (l:List UInt8) (h:a.size<4398046511104):zcw (zD a++l)=some (a,l):=by
 unfold zcw zD;rw [zzq4,zgp _ h,zzq0,ze4]
section
variable {α:Type} {one:Dec α} {E:α->List UInt8} {G:α->Prop}
theorem zkq (H: ∀l a l',one l=some (a,l')->l=E a++l'/\G a): ∀(n:Nat) (l:List UInt8) (zs:List α) (l':List UInt8),zb2 one n l=some (zs,l')->l=zs.flatMap E++l'/\zs.length=n/\ ∀a∈zs,G a
 |0,l,zs,l',h=>by
  simp only [zb2,Option.some.injEq,Prod.mk.injEq]at h;obtain⟨rfl,rfl⟩:=h;exact⟨rfl,rfl,fun a ha=>absurd ha (by simp)⟩
 |n+1,l,zs,l',h=>by
  unfold zb2 at h;obtain⟨x,hx,h⟩:=zzO.1 h;obtain⟨y,hy,h⟩:=zzO.1 h;simp only [zzX0]at h;obtain⟨rfl,rfl⟩:=h;have e1:=H l x.1 x.2 hx;have e2:=zkq H n x.2 y.1 y.2 hy;refine⟨by rw [List.flatMap_cons,zzq4,<-e2.1];exact e1.1,by rw [zzq18,e2.2.1],fun a ha=>?_⟩;rcases List.mem_cons.1 ha with rfl|ha
  ·exact e1.2
  ·exact e2.2.2 a ha
theorem zky: ∀(zs:List α) (l:List UInt8),(∀a∈zs,∀l,one (E a++l)=some (a,l))->zb2 one zs.length (zs.flatMap E++l)=some (zs,l)
 |[],l,_=>rfl
 |a::zs,l,H=>by
  rw [zzq18,List.flatMap_cons,zzq4];unfold zb2;rw [H a (List.mem_cons_self ..),zzq0,zky zs l fun b hb=>H b (List.mem_cons_of_mem _ hb),zzq0]
theorem zpR (H: ∀l a l',one l=some (a,l')->l=E a++l'/\G a) {l:List UInt8} {zs:List α} {l':List UInt8} (h:zV one l=some (zs,l')):l=zf zs.length++(zs.flatMap E++l')/\zs.length<4398046511104/\ ∀a∈zs,G a:=by
 unfold zV at h;obtain⟨x,hx,h⟩:=zzO.1 h;have e1:=zgs (n:=x.1) (l':=x.2) hx;have e2:=zkq H x.1 x.2 zs l' h;rw [e2.2.1,<-e2.1];exact⟨e1.1,e1.2,e2.2.2⟩
theorem zee {zs:List α} (l:List UInt8) (h:zs.length<4398046511104) (H: ∀a∈zs,∀l,one (E a++l)=some (a,l)):zV one (zf zs.length++(zs.flatMap E++l))=some (zs,l):=by
 unfold zV;rw [zgp _ h,zzq0,zky zs l H]
end
theorem zi9: ∀l a l',zcx l=some (a,l')->l=zfq a++l'/\(0<=a.lit/\a.lit<4398046511104/\0<=a.to/\a.to<4398046511104):=by
 intro l a l' h;unfold zcx at h;obtain⟨x,hx,h⟩:=zzO.1 h;obtain⟨y,hy,h⟩:=zzO.1 h;simp only [zzX0]at h;obtain⟨rfl,rfl⟩:=h;have e1:=zdx (n:=x.1) (l':=x.2) hx;have e2:=zdx (n:=y.1) (l':=y.2) hy;unfold zfq;exact⟨by rw [zzq4,<-e2.1];exact e1.1,e1.2.1,e1.2.2,e2.2.1,e2.2.2⟩
theorem zoQ {a:RCase} (l:List UInt8) (h:0<=a.lit/\a.lit<=1000000/\0<=a.to/\a.to<=1000000):zcx (zfq a++l)=some (a,l):=by
 unfold zcx zfq;rw [zzq4,zcI _ (by omega) (by omega),zzq0,zcI _ (by omega) (by omega),zzq0]
def zmT (a:RSeg):Prop:=I64 a.type/\I64 a.val.kind/\I64 a.val.n/\I64 a.size.kind/\I64 a.size.n
theorem zkK: ∀l a l',zdg l=some (a,l')->l=zgD a++l'/\zmT a:=by
 intro l a l' h;unfold zdg at h;obtain⟨x,hx,h⟩:=zzO.1 h;obtain⟨y,hy,h⟩:=zzO.1 h;obtain⟨z,hz,h⟩:=zzO.1 h;obtain⟨q,hq,h⟩:=zzO.1 h;simp only [zzX0]at h;obtain⟨rfl,rfl⟩:=h;have e1:=zdx (n:=x.1) (l':=x.2) hx;have e2:=zfk (a:=y.1) (l':=y.2) hy;have e3:=zfk (a:=z.1) (l':=z.2) hz;have e4:=zjb (a:=q.1) (l':=q.2) hq;unfold zgD zmT;refine⟨by simp only [zzq4];rw [<-e4,<-e3.1,<-e2.1];exact e1.1,?_⟩;unfold I64;simp only;omega
theorem zqG {a:RSeg} (l:List UInt8) (h:0<=a.type/\a.type<=1000/\WArg a.val/\WArg a.size):zdg (zgD a++l)=some (a,l):=by
 unfold zdg zgD;simp only [zzq4];rw [zcI _ (by omega) (by omega),zzq0,zgX _ h.2.2.1,zzq0,zgX _ h.2.2.2,zzq0,zjO,zzq0]
theorem zjh: ∀l a l',zcD l=some (a,l')->l=zbY a++l'/\(a.name.size<4398046511104/\I64 a.arity/\I64 a.entry):=by
 intro l a l' h;unfold zcD at h;obtain⟨x,hx,h⟩:=zzO.1 h;obtain⟨y,hy,h⟩:=zzO.1 h;obtain⟨z,hz,h⟩:=zzO.1 h;obtain⟨q,hq,h⟩:=zzO.1 h;simp only [zzX0]at h;obtain⟨rfl,rfl⟩:=h;have e1:=zfu (a:=x.1) (l':=x.2) hx;have e2:=zdx (n:=y.1) (l':=y.2) hy;have e3:=zjb (a:=z.1) (l':=z.2) hz;have e4:=zdx (n:=q.1) (l':=q.2) hq;unfold zbY;refine⟨by simp only [zzq4];rw [<-e4.1,<-e3,<-e2.1];exact e1.1,?_⟩;unfold I64;simp only;omega
theorem zon {a:RFunc} (l:List UInt8) (h:a.name.size<=32/\0<=a.arity/\a.arity<=16/\0<=a.entry/\a.entry<=524288):zcD (zbY a++l)=some (a,l):=by
 unfold zcD zbY;simp only [zzq4];rw [zge _ (by omega),zzq0,zcI _ (by omega) (by omega),zzq0,zjO,zzq0,zcI _ (by omega) (by omega),zzq0]
theorem zl7: ∀l a l',fnD l=some (a,l')->l=zbW a++l'/\(I64 a.arity/\I64 a.free/\I64 a.entry):=by
 intro l a l' h;unfold fnD at h;obtain⟨x,hx,h⟩:=zzO.1 h;obtain⟨y,hy,h⟩:=zzO.1 h;obtain⟨z,hz,h⟩:=zzO.1 h;simp only [zzX0]at h;obtain⟨rfl,rfl⟩:=h;have e1:=zdx (n:=x.1) (l':=x.2) hx;have e2:=zdx (n:=y.1) (l':=y.2) hy;have e3:=zdx (n:=z.1) (l':=z.2) hz;unfold zbW;refine⟨by simp only [zzq4];rw [<-e3.1,<-e2.1];exact e1.1,?_⟩;unfold I64;simp only;omega
theorem zth {a:RFun} (l:List UInt8) (h:0<=a.arity/\a.arity<=16/\0<=a.free/\a.free<=200/\0<=a.entry/\a.entry<=524288):fnD (zbW a++l)=some (a,l):=by
 unfold fnD zbW;simp only [zzq4];rw [zcI _ (by omega) (by omega),zzq0,zcI _ (by omega) (by omega),zzq0,zcI _ (by omega) (by omega),zzq0]
theorem zd4 {α:Type} {b:Bool} {one:Dec α} {z:α} {W:α->List UInt8} {G:α->Prop} (hz:G z) (H: ∀l a l',one l=some (a,l')->l=W a++l'/\G a) {l:List UInt8} {a:α} {l':List UInt8} (h:zdf b one z l=some (a,l')):l=opt b (W a)++l'/\G a:=by
 unfold zdf at h;unfold opt;split at h
 ·next c=>rw [if_pos c];exact H l a l' h
 ·next c=>
  simp only [zzX0]at h;obtain⟨rfl,rfl⟩:=h;rw [if_neg c];exact⟨rfl,hz⟩
theorem zeh {α:Type} {b:Bool} {one:Dec α} {z a:α} {W:α->List UInt8} (l:List UInt8) (hz:b=false->a=z) (H:b=true->one (W a++l)=some (a,l)):zdf b one z (opt b (W a)++l)=some (a,l):=by
 unfold zdf opt
 cases b with
 |true=>rw [if_pos rfl,if_pos rfl];exact H rfl
 |false=>rw [if_neg (by simp),if_neg (by simp),hz rfl];rfl
def ziQ (a:RArg):Prop:=I64 a.kind/\I64 a.n
def zka (a:RCase):Prop:=I64 a.lit/\I64 a.to
structure InsOk (x:RIns):Prop where
 op:I64 x.op
 dst:ziQ x.dst
 src: ∀a∈x.src,ziQ a
 srcL:x.src.length<=4398046511104
 tgt:I64 x.to
 n:I64 x.n
 live:I64 x.live
 name:x.name.size<=4398046511104
 cases: ∀a∈x.cases,zka a
 casesL:x.cases.length<=4398046511104
 segs: ∀a∈x.segs,zmT a
 segsL:x.segs.length<=4398046511104
theorem zpt: ∀l a l',zb7 l=some (a,l')->l=zbG a++l'/\ziQ a:=fun l a l' h=>by
 have:=zfk h;exact⟨this.1,by unfold ziQ I64;omega⟩
theorem ztp: ∀l a l',zcx l=some (a,l')->l=zfq a++l'/\zka a:=fun l a l' h=>by
 have:=zi9 l a l' h;exact⟨this.1,by unfold zka I64;omega⟩
theorem ziq: ∀l (a:Int) l',zbs l=some (a,l')->l=zf a.toNat++l'/\I64 a:=fun l a l' h=>by
 have:=zdx h;exact⟨this.1,by unfold I64;omega⟩
theorem zl1: ∀l (a:ByteArray) l',zcw l=some (a,l')->l=zD a++l'/\a.size<=4398046511104:=fun l a l' h=>by
 have:=zfu h;exact⟨this.1,by omega⟩
theorem zfj {α:Type} {one:Dec α} {E:α->List UInt8} {G:α->Prop} (H: ∀l a l',one l=some (a,l')->l=E a++l'/\G a): ∀l (zs:List α) l',zV one l=some (zs,l')->l=(zf zs.length++zs.flatMap E)++l'/\((∀a∈zs,G a)/\zs.length<=4398046511104):=fun l zs l' h=>by
 have:=zpR H h;exact⟨by rw [zzq4];exact this.1,this.2.2,by omega⟩
theorem ziB:I64 0:=by unfold I64;omega
theorem zrF {op:Int} {h:Nat} (ho:I64 op) {l:List UInt8} {x:RIns} {l':List UInt8} (hx:ziR op h l=some (x,l')):zf op.toNat++l=zd7 h x++l'/\x.op=op/\InsOk x:=by
 unfold ziR at hx;obtain⟨d,hd,hx⟩:=zzO.1 hx;obtain⟨s,hs,hx⟩:=zzO.1 hx;obtain⟨n,hn,hx⟩:=zzO.1 hx;obtain⟨m,hm,hx⟩:=zzO.1 hx;obtain⟨c,hc,hx⟩:=zzO.1 hx;obtain⟨g,hg,hx⟩:=zzO.1 hx;obtain⟨t,ht,hx⟩:=zzO.1 hx;obtain⟨v,hv,hx⟩:=zzO.1 hx;simp only [zzX0]at hx;obtain⟨rfl,rfl⟩:=hx;have e1:=zd4 (a:=d.1) (l':=d.2) (show ziQ ⟨0,0⟩from⟨ziB,ziB⟩) zpt hd;have e2:=zd4 (a:=s.1) (l':=s.2) (G:=fun zs=>(∀a∈zs,ziQ a)/\zs.length<=4398046511104) ⟨fun a ha=>absurd ha (by simp),zzZ _⟩ (zfj zpt) hs;have e3:=zd4 (a:=n.1) (l':=n.2) (G:=I64) ziB ziq hn;have e4:=zd4 (a:=m.1) (l':=m.2) (G:=fun a=>a.size<=4398046511104) (by show(0:Nat)<=_;omega) zl1 hm;have e5:=zd4 (a:=c.1) (l':=c.2) (G:=fun zs=>(∀a∈zs,zka a)/\zs.length<=4398046511104) ⟨fun a ha=>absurd ha (by simp),zzZ _⟩ (zfj ztp) hc;have e6:=zd4 (a:=g.1) (l':=g.2) (G:=fun zs=>(∀a∈zs,zmT a)/\zs.length<=4398046511104) ⟨fun a ha=>absurd ha (by simp),zzZ _⟩ (zfj zkK) hg;have e7:=zd4 (a:=t.1) (l':=t.2) (G:=I64) ziB ziq ht;have e8:=zd4 (a:=v.1) (l':=v.2) (G:=I64) ziB ziq hv;refine⟨?_,rfl,⟨ho,e1.2,e2.2.1,e2.2.2,e7.2,e3.2,e8.2,e4.2,e5.2.1,e5.2.2,e6.2.1,e6.2.2⟩⟩;unfold zd7 zcV zba zX;simp only [zzq4];rw [<-e8.1,<-e7.1,<-e6.1,<-e5.1,<-e4.1,<-e3.1,<-e2.1,<-e1.1]
theorem zkh: ∀l x l',zcr l=some (x,l')->l=zbw x++l'/\InsOk x:=by
 intro l x l' h;unfold zcr at h;obtain⟨o,ho,h⟩:=zzO.1 h;split at h
 ·next c=>
  have e1:=zdx (n:=o.1) (l':=o.2) ho;have e2:=zrF (by unfold I64;omega) h;unfold zbw;rw [e2.2.1,<-e2.1];exact⟨e1.1,e2.2.2⟩
 ·exact zz83
theorem zmQ {l:List UInt8} {t:Tm} {l':List UInt8} (h:zcG l=some (t,l')) (hl:l.length<=maxLen):l=zF 2000 t++l'/\zA 2000 t=true/\OkF 2000 t:=by
 unfold zcG at h;obtain⟨x,hx,h⟩:=zzO.1 h;split at h
 ·next c=>
  simp only [zzX0]at h;obtain⟨rfl,rfl⟩:=h;exact⟨zjf 2000 0 l x.1.1 x.1.2 x.2 hx,c,(zfS 2000 0 l x.1.1 x.1.2 x.2 hx (by omega) hl).1⟩
 ·exact zz83
theorem zpK {l:List UInt8} {t:Tm} (h:zew l=some t) (hl:l.length<=maxLen):l=zc9 2000 t/\zA 2000 t=true/\OkF 2000 t:=by
 cases l with
 |nil=>exact absurd h (by simp [zew])
 |cons c l=>
  change (if c.toNat=131 then(zcG l).bind fun x=>if x.2= []then some x.1 else none else none)=some t at h;by_cases hc:c.toNat=131
  ·rw [if_pos hc]at h
   obtain⟨x,hx,h⟩:=zzO.1 h;split at h
   ·next h0=>
    simp only [Option.some.injEq]at h;subst h;rw [zzq18]at hl;have e:=zmQ (t:=x.1) (l':=x.2) hx (by omega);rw [h0,List.append_nil]at e;unfold zc9;rw [<-e.1,show c=131 from UInt8.toNat_inj.1 hc];exact⟨rfl,e.2⟩
   ·exact zz83
  ·rw [if_neg hc]at h;exact absurd h (by simp)
theorem zkz: ∀l t l',zdh l=some (t,l')->l=zD (zbU 2000 t)++l'/\(zA 2000 t=true/\OkF 2000 t):=by
 intro l t l' h;unfold zdh at h;obtain⟨x,hx,h⟩:=zzO.1 h;obtain⟨y,hy,h⟩:=zzO.1 h;simp only [zzX0]at h;obtain⟨rfl,rfl⟩:=h;have e1:=zfu (a:=x.1) (l':=x.2) hx;have hz:x.1.data.toList.length=x.1.size:=rfl;have e2:=zpK hy (by unfold maxLen;omega)
 have e3:zbU 2000 y=x.1:=by
  unfold zbU;rw [<-e2.1]
 rw [e3];exact⟨e1.1,e2.2⟩
structure UnitOk (u:RUnit):Prop where
 mdl:u.mdl.size<=4398046511104
 vsn:I64 u.vsn
 lits: ∀t∈u.lits,zA 2000 t=true/\OkF 2000 t
 litsL:u.lits.length<=4398046511104
 funcs: ∀a∈u.funcs,a.name.size<4398046511104/\I64 a.arity/\I64 a.entry
 funcsL:u.funcs.length<=4398046511104
 funs: ∀a∈u.funs,I64 a.arity/\I64 a.free/\I64 a.entry
 funsL:u.funs.length<=4398046511104
 code: ∀x∈u.code,InsOk x
 codeL:u.code.length<=4398046511104
theorem zoy {l:List UInt8} {u:RUnit} {l':List UInt8} (h:zgF l=some (u,l')):l=zbO (zbU 2000) u++l'/\UnitOk u:=by
 unfold zgF at h;obtain⟨m,hm,h⟩:=zzO.1 h;obtain⟨v,hv,h⟩:=zzO.1 h;obtain⟨a,ha,h⟩:=zzO.1 h;obtain⟨b,hb,h⟩:=zzO.1 h;obtain⟨c,hc,h⟩:=zzO.1 h;obtain⟨d,hd,h⟩:=zzO.1 h;simp only [zzX0]at h;obtain⟨rfl,rfl⟩:=h;have e1:=zl1 l m.1 m.2 hm;have e2:=ziq m.2 v.1 v.2 hv;have e3:=zfj zkz v.2 a.1 a.2 ha;have e4:=zfj zjh a.2 b.1 b.2 hb;have e5:=zfj zl7 b.2 c.1 c.2 hc;have e6:=zfj zkh c.2 d.1 d.2 hd;refine⟨?_,⟨e1.2,e2.2,e3.2.1,e3.2.2,e4.2.1,e4.2.2,e5.2.1,e5.2.2,e6.2.1,e6.2.2⟩⟩;unfold zbO;simp only [List.append_nil,zzq4]at e3 e4 e5 e6 ⊢;rw [<-e6.1,<-e5.1,<-e4.1,<-e3.1,<-e2.1,<-e1.1]
theorem zB (a b:List UInt8):(⟨a.toArray⟩:ByteArray)++⟨b.toArray⟩=⟨(a++b).toArray⟩:=by
 apply ByteArray.ext;rw [ByteArray.data_append];simp
theorem bsz (l:List UInt8):(⟨l.toArray⟩:ByteArray).size=l.length:=by show l.toArray.size=_;simp
theorem zi2 (f n:Nat):zb3 (f+1) n=if n<128 then [UInt8.ofNat n]else UInt8.ofNat (n%128+128)::zb3 f (n/128):=rfl
theorem ziy: ∀(f n:Nat),n<128^(f+1)->zb3 (f+2) n=zb3 (f+1) n
 |0,n,h=>by
  have:n<128:=by simpa using h
  show(if n<128 then [UInt8.ofNat n]else UInt8.ofNat (n%128+128)::zb3 1 (n/128))=(if n<128 then [UInt8.ofNat n]else UInt8.ofNat (n%128+128)::zb3 0 (n/128));rw [if_pos this,if_pos this]
 |f+1,n,h=>by
  show(if n<128 then [UInt8.ofNat n]else UInt8.ofNat (n%128+128)::zb3 (f+2) (n/128))=(if n<128 then [UInt8.ofNat n]else UInt8.ofNat (n%128+128)::zb3 (f+1) (n/128));rw [ziy f (n/128) (by rw [Nat.pow_succ]at h;omega)]
theorem zo2 (n:Nat) (h: ¬n<128) (h2:n<=9223372036854775807):zf n=UInt8.ofNat (n%128+128)::zf (n/128):=by
 show zb3 (9+1) n=_::zb3 10 (n/128);rw [zi2,if_neg h,ziy 8 (n/128) (by omega)]
theorem zgG {w:World} {g cap:Nat} (l:List UInt8) (h: ∀j u,(zo l)[j]?=some u->w.cell? ((⟨g,0,none⟩:Addr).add j)=some u):(convert 65 9 (.slice (some ⟨g,0,none⟩) l.length cap)).run Tryz.prog w= .ok (.string ⟨l.toArray⟩) w:=
 run_convert_bytes_back (P:=Tryz.prog) w 65 9 5 ⟨g,0,none⟩ cap l Tryz.underlying65 Tryz.underlying5 Tryz.underlying9 (fun j hj=>h j _ (by simp [zo,zzq11 hj]))
theorem zhW (w:World) (x:UInt8) (T:TypeId):(convert 65 9 (.slice (some ⟨w.heap.size,0,none⟩) 1 1)).run Tryz.prog (w.alloc (.cells #[.int .u8 (x.toNat:Int)] T))= .ok (.string ⟨[x].toArray⟩) (w.alloc (.cells #[.int .u8 (x.toNat:Int)] T)):=
 zgG [x] (zgJ [x] #[.int .u8 (x.toNat:Int)] rfl)
theorem zcK (k:Nat): ∀(n:Nat) (w:World),n<128^(k+1)->n<=9223372036854775807 ->
  Calls Tryz.prog 41 #[.int .i64 n] w fun e w'=>e= .returned (.string ⟨(zf n).toArray⟩)/\Below w.heap.size w w':=by
 induction k with
 |zero=>
  intro n w h h2;have h3:n<128:=by simpa using h
  have E:Hid (zf n= [UInt8.ofNat n]):=zzH (by show zb3 (9+1) n=_;rw [zi2,if_pos h3]);have hb:Below w.heap.size w (w.alloc (.cells #[.int .u8 n] 5)):=zzE _ _;have HB:=zzH hb;have hcv:=zhW w (UInt8.ofNat n) 5;rw [show(((UInt8.ofNat n).toNat:Nat):Int)=(n:Int)by rw [UInt8.toNat_ofNat'];omega,<-E.out]at hcv;clear h hb;generalize zf n=V at *;go_in;go_wp2;go_ret;exact⟨rfl,HB.out⟩
 |succ k ih=>
  intro n w h h2;by_cases h3:n<128
  ·have E:Hid (zf n= [UInt8.ofNat n]):=zzH (by show zb3 (9+1) n=_;rw [zi2,if_pos h3])
   have hb:Below w.heap.size w (w.alloc (.cells #[.int .u8 n] 5)):=zzE _ _;have HB:=zzH hb;have hcv:=zhW w (UInt8.ofNat n) 5;rw [show(((UInt8.ofNat n).toNat:Nat):Int)=(n:Int)by rw [UInt8.toNat_ofNat'];omega,<-E.out]at hcv;clear h hb ih;generalize zf n=V at *;go_in;go_wp2;go_ret;exact⟨rfl,HB.out⟩
  ·have E:Hid (zf n=UInt8.ofNat (n%128+128)::zf (n/128)):=zzH (zo2 n h3 h2)
   have hc:=fun wx=>ih (n/128) wx (by rw [Nat.pow_succ]at h;omega) (by omega)
   have h4:128<=n:=by omega
   have HC:=zzH hc;clear ih h h3 hc;have HL2:Hid ((zf (n/128)).length<=10):=zzH (zv _);generalize zf n=V at *;generalize zf (n/128)=V2 at *
   have hx:IntKind.u8.wrap (IntKind.i64.wrap ((n:Int).tmod 128+128))=(((UInt8.ofNat (n%128+128)).toNat:Nat):Int):=by
    rw [Int.tmod_eq_emod_of_nonneg (by omega),zzq5,IntKind.wrap_u8,UInt8.toNat_ofNat'];omega
   have hw:IntKind.i64.wrap ((n:Int)/128)=((n/128:Nat):Int):=by rw [zzq5];omega
   generalize UInt8.ofNat (n%128+128)=x at *;have hadd:=fun wx=>run_string_add_sum (P:=Tryz.prog) wx ⟨[x].toArray⟩ ⟨V2.toArray⟩ (by rw [bsz,bsz];have:=HL2.out;simp;omega)
   have hb:Below w.heap.size w ((w.alloc (.cells #[.int .u8 (x.toNat:Int)] 5)).drew):=(zzE _ _).drew;have HB:=zzH hb;have hcv:(convert 65 9 (.slice (some ⟨w.heap.size,0,none⟩) 1 1)).run Tryz.prog (w.alloc (.cells #[.int .u8 (x.toNat:Int)] 5)).drew= .ok (.string ⟨[x].toArray⟩) (w.alloc (.cells #[.int .u8 (x.toNat:Int)] 5)).drew:=zgG [x] (zgJ (w:=w) (T:=5) [x] #[.int .u8 (x.toNat:Int)] rfl);have HR:Hid ((w.alloc (.cells #[.int .u8 (x.toNat:Int)] 5)).drew.heap[w.heap.size]?=some (.cells #[.int .u8 (x.toNat:Int)] 5 (0,0))):=zzH (zzF _ _)
   have HCAT:Hid ((⟨[x].toArray⟩:ByteArray)++⟨V2.toArray⟩=⟨V.toArray⟩):=zzH (by rw [zB,E.out];rfl);clear hb;go_in;go_wp2_with fail;go_region_with (go_at_call 41;refine(HC.out _).mono ?_;rintro e w1 ⟨rfl,hb1⟩;(first|(have hcA:(convert 65 9 (.slice (some ⟨w.heap.size,0,none⟩) 1 1)).run Tryz.prog w1= .ok (.string ⟨[x].toArray⟩) w1:=zgG (cap:=1) [x] (zbq ((hb1.block _ (zc HR.out)).trans HR.out) rfl);have HBA:=zzH (HB.out.trans (hb1.mono HB.out.size)))|have HBC:Hid (Below w.heap.size w w1):=zzH ((zzR _ _).drew.trans hb1));have hcB:=zhW w1 x 5;clear hb1)
   all_goals
    go_wp2;go_ret;exact⟨congrArg (fun s=>Ending.returned (.string s)) HCAT.out,by first|exact HBA.out|exact HBC.out.alloc HBC.out.size _⟩
theorem zbD (n:Int) (w:World) (h0:0<=n) (h:n<=9223372036854775807):
  Calls Tryz.prog 41 #[.int .i64 n] w fun e w'=>e= .returned (.string ⟨(zf n.toNat).toArray⟩)/\Below w.heap.size w w':=by
 obtain⟨m,rfl⟩:=zzJ h0;rw [zzq16];exact zcK 9 m w (by omega) (by omega)
theorem zs4 (a:List UInt8) (s:ByteArray):(⟨a.toArray⟩:ByteArray)++s=⟨(a++s.data.toList).toArray⟩:=by
 have:s=⟨s.data.toList.toArray⟩:=by simp
 conv=>lhs;rw [this]
 exact zB _ _
theorem zfm (s:ByteArray) (w:World) (hs:s.size<=1152921504606846976):
  Calls Tryz.prog 40 #[.string s] w fun e w'=>e= .returned (.string ⟨(zD s).toArray⟩)/\Below w.heap.size w w':=by
 have hv:=zcK 9 s.size w (by omega) (by omega);have HCAT:Hid ((⟨(zf s.size).toArray⟩:ByteArray)++s=⟨(zD s).toArray⟩):=zzH (zs4 _ _);have HV:=zzH hv;have hl:=zv s.size;have hadd:=fun wx=>run_string_add_sum (P:=Tryz.prog) wx ⟨(zf s.size).toArray⟩ s (by rw [bsz];omega)
 clear hv hl;generalize zf s.size=V at *;generalize zD s=T at *;go_in;go_wp2_with fail;refine HV.out.mono ?_;rintro e w1 ⟨rfl,hb⟩;go_wp2;go_ret;exact⟨congrArg (fun s=>Ending.returned (.string s)) HCAT.out,hb⟩
theorem zfF (a:RArg) (w:World) (ha:WArg a):
  Calls Tryz.prog 89 #[.agg #[.int .i64 a.kind,.int .i64 a.n]] w fun e w'=>e= .returned (.string ⟨(zbG a).toArray⟩)/\Below w.heap.size w w':=by
 obtain⟨k,n⟩:=a;obtain⟨a1,a2,a3,a4⟩:=ha;simp only at a1 a2 a3 a4;have hno:=fun wx=>zhp ⟨k,n⟩ wx
 have hbx:=zzF w (.cells #[.int .i64 k,.int .i64 n] 31);have hba:Below w.heap.size w (w.alloc (.cells #[.int .i64 k,.int .i64 n] 31)):=zzE _ _;have HAW:Hid (zbG ⟨k,n⟩=zf (4*n+k).toNat):=zzH rfl
 have HN:Hid (zdL ⟨k,n⟩=true->(4*n+k).toNat=0):=zzH (fun h=>by
  unfold zdL at h;rw [zzq6,zzq7,zzq7]at h;simp only at h;omega)
 refine zzK5 (fun wx=>zbD 0 wx (by omega) (by omega)) (fun wx=>zbD (4*n+k) wx (by omega) (by omega)) hba hbx hno fun HV0 HV1 HBA HBX HNO=>?_;clear hba hbx hno;generalize zdL ⟨k,n⟩=nz at *;generalize zbG ⟨k,n⟩=AW at *;go_in;go_upto_region 1 with fail;have hb1:=HBX.out;generalize w.alloc (.cells #[.int .i64 k,.int .i64 n] 31)=W at *;generalize hBz:w.heap.size=B at *;have HBZ:=zzH hBz;clear hBz;have c0:W.cell? ⟨B,0,none⟩=some (.int .i64 k):=by rw [zzq2 _ _ _ _ _ _ hb1];rfl
 have c1:W.cell? ⟨B,1,none⟩=some (.int .i64 n):=by rw [zzq2 _ _ _ _ _ _ hb1];rfl
 have hlx:=zc hb1;clear hb1
 cases nz with
 |true=>
  have E:Hid (AW=zf (0:Int).toNat):=zzH (by rw [HAW.out,HN.out rfl];rfl);clear HN;go_wp2_with fail;refine(HNO.out _).mono ?_;rintro e w1 ⟨rfl,hb⟩;go_wp2_with fail;refine(HV0.out _).mono ?_;rintro e w2 ⟨rfl,hb2⟩;have HF:Hid (Below B w w2):=zzH (HBA.out.trans ((zd hb hb2).mono (by have:=HBA.out.size;have:=HBZ.out;omega)));clear hb hb2;go_wp2;go_ret;exact⟨congrArg (fun l:List UInt8=>Ending.returned (.string ⟨l.toArray⟩)) E.out.symm,by rw [HBZ.out];exact HF.out⟩
 |false=>
  go_wp2_with fail;refine(HNO.out _).mono ?_;rintro e w1 ⟨rfl,hb⟩;have hb1:=(hb.block B hlx).trans HBX.out;have HB1:=zzH hb;clear c0 c1 hlx;have c0:w1.cell? ⟨B,0,none⟩=some (.int .i64 k):=by rw [zzq2 _ _ _ _ _ _ hb1];rfl
  have c1:w1.cell? ⟨B,1,none⟩=some (.int .i64 n):=by rw [zzq2 _ _ _ _ _ _ hb1];rfl
  have hlx:=zc hb1;clear hb1 hb;go_wp2_with fail;refine(HV1.out _).mono ?_;rintro e w2 ⟨rfl,hb2⟩;have HF:Hid (Below B w w2):=zzH (HBA.out.trans ((zd HB1.out hb2).mono (by have:=HBA.out.size;have:=HBZ.out;omega)));clear hb2;go_wp2;go_ret;exact⟨congrArg (fun l:List UInt8=>Ending.returned (.string ⟨l.toArray⟩)) HAW.out.symm,by rw [HBZ.out];exact HF.out⟩
theorem zie (b:Bool) (w:World):
  Calls Tryz.prog 43 #[.bool b] w fun e w'=>e= .returned (.string ⟨(zde b).toArray⟩)/\Below w.heap.size w w':=by
 have HV0:=zzH (zbD 0 w (by omega) (by omega));have HV1:=zzH (zbD 1 w (by omega) (by omega))
 cases b with
 |true=>
  go_in;go_wp2_with fail;refine HV1.out.mono ?_;rintro e w1 ⟨rfl,hb⟩;go_wp2;go_ret;exact⟨rfl,hb⟩
 |false=>
  go_in;go_wp2_with fail;refine HV0.out.mono ?_;rintro e w1 ⟨rfl,hb⟩;go_wp2;go_ret;exact⟨rfl,hb⟩
theorem zp7: ∀k,(h:k<41)->zm (rowT[k]'h).1.toNat 2=false->(rowT[k]'h).2.2=0:=by decide
theorem zn7 {op:Int} (h:1<=op/\op<=40):zm (zr op).1.toNat 2=false->(zr op).2.2=0:=by
 obtain⟨k,rfl⟩: ∃k:Nat,op=(k:Int):=⟨op.toNat,by omega⟩;have hk:k<41:=by omega
 have hra:zr (k:Int)=rowT[k]'hk:=by unfold zr;rw [zzq16,zzq11 (by exact hk)];rfl
 rw [hra];exact zp7 k hk
theorem zrv {u:RUnit} {i:Nat} {x:RIns} (ht:TabOk u) (hb:zep u i x=true) (l:List UInt8):zcr (zbw x++l)=some (x,l):=by
 have hw:=zig ht hb;unfold zep at hb;simp only [zzq6]at hb;obtain⟨h0,h1,-⟩:=hb;have hop:1<=x.op/\x.op<=40:=by unfold zdi at h0;exact zza h0
 have hs:=zn7 hop;unfold zcr zbw zd7;rw [zzq4,zcI _ (by omega) (by omega),zzq0,if_pos hop];generalize(zr x.op).1.toNat=h at *;unfold zQ at h1;simp only [zzq6]at h1;obtain⟨f1,f2,f3,f4,f5,f6,f7,f8,f9,f10⟩:=h1;have w3:=zcb f3;unfold ziR zcV zba zX;simp only [zzq4]
 rw [zeh (a:=x.dst) (z:=(⟨0,0⟩:RArg)) _ (fun e=>by
   unfold zfi at f1;rw [if_neg (by rw [e];decide),zzq6,zzq7,zzq7]at f1;obtain⟨d1,d2⟩:=f1;generalize x.dst=d at *;obtain⟨dk,dn⟩:=d;simp only at d1 d2;rw [d1,d2]) (fun e=>zgX _ (hw.dst e)),zzq0,
  zeh (a:=x.src) (z:=([]:List RArg)) (W:=fun zs=>zf zs.length++zs.flatMap zbG) _ (fun e=>by have:=hs e;exact List.length_eq_zero_iff.1 (by omega)) (fun e=>by
   simp only [zzq4];exact zee _ (by have:=hw.srcLen;omega) fun a ha l=>zgX l (hw.src a ha)),zzq0,
  zeh (a:=x.n) (z:=(0:Int)) (W:=fun n=>zf n.toNat) _ (fun e=>by rw [e,zzq9]at f5;exact eq_of_beq f5) (fun e=>zcI _ hw.n0 (by have:=hw.n1;omega)),zzq0,
  zeh (a:=x.name) (z:=(⟨#[]⟩:ByteArray)) (W:=zD) _ (fun e=>by
   rw [e,zzq9,List.isEmpty_iff]at f6;have:=zgl x.name;rw [f6]at this;exact bz this.symm) (fun e=>zge _ (by have:=hw.name;omega)),zzq0,
  zeh (a:=x.cases) (z:=([]:List RCase)) (W:=fun zs=>zf zs.length++zs.flatMap zfq) _ (fun e=>by rw [e,zzq9]at f9;exact List.length_eq_zero_iff.1 (eq_of_beq f9)) (fun e=>by
   simp only [zzq4];exact zee _ (by have:=hw.casesLen;omega) fun a ha l=>zoQ l (hw.cases a ha)),zzq0,
  zeh (a:=x.segs) (z:=([]:List RSeg)) (W:=fun zs=>zf zs.length++zs.flatMap zgD) _ (fun e=>by rw [e,zzq9]at f10;exact List.length_eq_zero_iff.1 (eq_of_beq f10)) (fun e=>by
   simp only [zzq4];exact zee _ (by have:=hw.segsLen;omega) fun a ha l=>zqG l (hw.segs a ha)),zzq0,
  zeh (a:=x.to) (z:=(0:Int)) (W:=fun n=>zf n.toNat) _ (fun e=>by rw [e,zzq9]at f7;exact eq_of_beq f7) (fun e=>zcI _ hw.to0 (by have:=hw.to1;omega)),zzq0,
  zeh (a:=x.live) (z:=(0:Int)) (W:=fun n=>zf n.toNat) _ (fun e=>by rw [e,zzq9]at f8;exact eq_of_beq f8) (fun e=>zcI _ hw.live0 (by have:=hw.live1;omega)),zzq0]
theorem zkt {f g:Nat} (H: ∀(t:Tm),zj f t=true->zbg f t<=g->zj g t=true/\zbg g t=zbg f t/\zt g t=zt f t/\zF g t=zF f t/\(OkF f t->OkF g t)):
  ∀(ts:List Tm),(∀x∈ts,zj f x=true)->(ts.map (zbg f)).sum<=g->(∀x∈ts,zj g x=true)/\ts.map (zbg g)=ts.map (zbg f)/\ts.map (zt g)=ts.map (zt f)/\ts.flatMap (zF g)=ts.flatMap (zF f)/\((∀x∈ts,OkF f x)-> ∀x∈ts,OkF g x)
 |[],_,_=>⟨fun x hx=>absurd hx (by simp),rfl,rfl,rfl,fun _ x hx=>absurd hx (by simp)⟩
 |t::ts,hf,hn=>by
  rw [List.map_cons,List.sum_cons]at hn;obtain⟨a1,a2,a3,a4,a5⟩:=H t (hf t (zzg ..)) (by omega);obtain⟨b1,b2,b3,b4,b5⟩:=zkt H ts (fun x hx=>hf x (zzh _ hx)) (by omega);refine⟨fun x hx=>?_,by simp only [List.map_cons,a2,b2],by simp only [List.map_cons,a3,b3],by simp only [List.flatMap_cons,a4,b4],fun ho x hx=>?_⟩
  ·rcases List.mem_cons.1 hx with rfl|hx
   ·exact a1
   ·exact b1 x hx
  ·rcases List.mem_cons.1 hx with rfl|hx
   ·exact a5 (ho _ (zzg ..))
   ·exact b5 (fun y hy=>ho y (zzh _ hy)) x hx
theorem zmk: ∀(f g:Nat) (t:Tm),zj f t=true->zbg f t<=g->zj g t=true/\zbg g t=zbg f t/\zt g t=zt f t/\zF g t=zF f t/\(OkF f t->OkF g t)
 |0,g,t,h,_=>absurd h (by simp [zj])
 |f+1,g,t,h,hn=>by
  have h':=h;unfold zj at h';rw [zzq6,List.all_eq_true]at h';unfold zbg at hn;obtain⟨g,rfl⟩: ∃g',g=g'+1:=⟨g-1,by omega⟩;obtain⟨b1,b2,b3,b4,b5⟩:=zkt (f:=f) (g:=g) (fun t=>zmk f g t) t.items h'.2 (by omega);refine⟨?_,?_,?_,?_,fun ho=>⟨ho.1,b5 ho.2⟩⟩
  ·unfold zj;rw [zzq6,List.all_eq_true];exact⟨h'.1,b1⟩
  ·unfold zbg;rw [b2]
  ·unfold zt;rw [b3]
  ·unfold zF;rw [b4]
theorem zg0 {f:Nat} {t:Tm} (h:zA f t=true):zA 2000 t=true/\zF 2000 t=zF f t/\(OkF f t->OkF 2000 t):=by
 unfold zA at h ⊢;rw [zzq6,zzq7]at h;have:=zfp f t h.1;obtain⟨a1,a2,a3,a4,a5⟩:=zmk f 2000 t h.1 (by omega);exact⟨by rw [zzq6,zzq7,a3];exact⟨a1,h.2⟩,a4,a5⟩
theorem zm8 {t:Tm} (hv:zA 2000 t=true) (ho:OkF 2000 t) (l:List UInt8):zcG (zF 2000 t++l)=some (t,l):=by
 unfold zcG;rw [zos hv ho,zzq0];exact if_pos hv
theorem zpJ {t:Tm} (hv:zA 2000 t=true) (ho:OkF 2000 t):zew (zc9 2000 t)=some t:=by
 have:=zm8 hv ho [];rw [List.append_nil]at this;change (if(131:UInt8).toNat=131 then(zcG (zF 2000 t)).bind fun x=>if x.2= []then some x.1 else none else none)=some t;rw [if_pos (show(131:UInt8).toNat=131 from rfl),this,zzq0,if_pos rfl]
theorem zq5 {t:Tm} (hv:zA 2000 t=true) (ho:OkF 2000 t) (hs:(zbU 2000 t).size<4398046511104) (l:List UInt8):zdh (zD (zbU 2000 t)++l)=some (t,l):=by
 unfold zdh;rw [zge l hs,zzq0,show(zbU 2000 t).data.toList=zc9 2000 t from rfl,zpJ hv ho,zzq0]
theorem zoF {u:RUnit} (hc:zZ 2000 u=0) (ho: ∀t∈u.lits,OkF 2000 t) (hs: ∀t∈u.lits,(zbU 2000 t).size<4398046511104) (l:List UInt8):zgF (zbO (zbU 2000) u++l)=some (u,l):=by
 obtain⟨ht,htb,hi⟩:=zeF hc;have hv:=zds htb;unfold zgF zbO;simp only [List.append_nil,zzq4]
 rw [zge _ (by have:=ht.mdl;omega),zzq0,zcI _ (by have:=ht.vsn0;omega) (by have:=ht.vsn1;omega),zzq0,
  zee (E:=fun t=>zD (zbU 2000 t)) _ (by have:=ht.lits;omega) (fun t h l=>zq5 (hv t h) (ho t h) (hs t h) l),zzq0,
  zee (E:=zbY) _ (by have:=ht.funcs;omega) (fun g h l=>zon l (ht.func g h)),zzq0,
  zee (E:=zbW) _ (by have:=ht.funs;omega) (fun g h l=>zth l (ht.fn g h)),zzq0,
  zee (E:=zbw) _ (by have:=ht.code1;omega) (fun x h l=>by
   obtain⟨k,hk,rfl⟩:=List.getElem_of_mem h;exact zrv ht (hi k hk) l),zzq0]
theorem zpz {u:RUnit} (hc:zZ 2000 u=0) (ho: ∀t∈u.lits,OkF 2000 t) (hs: ∀t∈u.lits,(zbU 2000 t).size<4398046511104):zdy (zbO (zbU 2000) u)=some u:=by
 have:=zoF hc ho hs [];rw [List.append_nil]at this;unfold zdy;rw [this,zzq0,if_pos ⟨rfl,hc⟩]
end Go.Proofs.YtijekmeocadkeaaGreatDoor
