import Derived.Test.YthajedcbgnloeaaGreatDoorW01
namespace Go.Proofs.YthajedcbgnloeaaGreatDoor
open Go.RowKit
set_option linter.unusedVariables false
set_option linter.unusedSimpArgs false
set_option maxRecDepth 100000
set_option maxHeartbeats 0
def zf (t:Tm):Tm:=
 if t.kind=1 then .mk t.kind 0 t.gen t.name t.func t.arity t.items t.bytes t.bits else if t.kind=2 then .mk t.kind t.int t.gen ⟨#[]⟩ t.func t.arity t.items t.bytes t.bits else if t.kind=3 then .mk t.kind 0 0 ⟨#[]⟩ t.func t.arity t.items t.bytes t.bits else if t.kind=4 then .mk t.kind 0 0 ⟨#[]⟩ t.func 0 [] t.bytes t.bits else if t.kind=5 then .mk t.kind t.int t.gen ⟨#[]⟩ ⟨#[]⟩ 0 t.items t.bytes t.bits else if t.kind=6 then .mk t.kind 0 0 ⟨#[]⟩ t.func t.arity t.items t.bytes t.bits else if t.kind=7 then .mk t.kind t.int t.gen t.name t.func t.arity [] t.bytes t.bits else if t.kind=8 then .mk t.kind t.int t.gen t.name t.func t.arity t.items t.bytes t.bits else if t.kind=9 then .mk t.kind t.int t.gen t.name t.func t.arity [] t.bytes t.bits else if t.kind=10 then .mk t.kind t.int t.gen t.name t.func t.arity t.items ⟨#[]⟩ 0 else t
def zeh:Tm:=.mk 0 0 0 ⟨#[]⟩ ⟨#[]⟩ 0 [] ⟨#[]⟩ 0
def ze4 (t:Tm):Tm:=.mk 0 (zf t).int (zf t).gen (zf t).name (zf t).func (zf t).arity (zf t).items (zf t).bytes (zf t).bits
theorem zo4 (s:ByteArray):(s.toList==(ByteArray.mk #[]).toList)=zS s:=by
 unfold zS;rw [zzq19,zzq19];rw [Bool.eq_iff_iff,beq_iff_eq,zzq8];constructor
 ·intro h
  have h2:s.data.toList.length=0:=congrArg List.length h;rw [Array.length_toList]at h2;exact h2
 ·intro h
  have:s.data.size=0:=h;have:s.data=#[]:=Array.eq_empty_of_size_eq_zero this;rw [this]
theorem zee (n:Int):(n==0)=zI n:=by unfold zI;rw [Bool.eq_iff_iff,beq_iff_eq,zzq8]
theorem zqQ (rec:Tm->Tm->Bool) (l:List Tm):zcr rec l []=zL l:=by cases l<;>rfl
theorem zqp:zS (ByteArray.mk #[])=true:=rfl
theorem zqy:zI 0=true:=rfl
theorem zqI:zL []=true:=rfl
theorem zib (f:Nat) (a:Tm):zcd (f+1) a zeh=(zI a.kind&&(zI a.int&&(zI a.gen&&(zS a.name&&(zS a.func&&(zI a.arity&&(zS a.bytes&&zI a.bits))))))&&zL a.items):=by
 unfold zcd ziu zeh;simp only [Tm.kind,Tm.int,Tm.gen,Tm.name,Tm.func,Tm.arity,Tm.items,Tm.bytes,Tm.bits,zo4,zee,zqQ]
theorem zgX {t:Tm} (h: ¬(t.kind=1\/t.kind=2\/t.kind=3\/t.kind=4\/t.kind=5\/t.kind=6\/t.kind=7\/t.kind=8\/t.kind=9\/t.kind=10)):okK t=false:=by
 unfold okK;simp only [not_or]at h;obtain⟨h1,h2,h3,h4,h5,h6,h7,h8,h9,h10⟩:=h;rw [if_neg h1,if_neg h2,if_neg (by omega),if_neg h4,if_neg h5,if_neg h7,if_neg h8,if_neg h9,if_neg h10]
theorem zmc (n m:Nat):decide (n<=m)=decide ((n:Int)<=(m:Int)):=by rw [Bool.eq_iff_iff,zzq8,zzq8];omega
theorem zme (f:Nat) (t:Tm):(okK t&&zcd (f+1) (ze4 t) zeh)=zc0 t:=by
 rw [zib];obtain⟨tk,ti,tg,tn,tf,ta,tl,ty,tz⟩:=t;by_cases h:tk=1\/tk=2\/tk=3\/tk=4\/tk=5\/tk=6\/tk=7\/tk=8\/tk=9\/tk=10
 ·unfold ze4 zc0
  rcases h with rfl|rfl|rfl|rfl|rfl|rfl|rfl|rfl|rfl|rfl
  all_goals
   generalize okK (Tm.mk _ ti tg tn tf ta tl ty tz)=q;simp only [zf,ze6,Tm.kind,Tm.int,Tm.gen,Tm.name,Tm.func,Tm.arity,Tm.items,Tm.bytes,Tm.bits];simp [zqp,zqy,zqI]
   try(cases q<;>cases zI ti<;>cases zI tg<;>cases zS tn<;>cases zS tf<;>cases zI ta<;>cases zL tl<;>cases zS ty<;>cases zI tz<;>rfl)
 ·have:okK (Tm.mk tk ti tg tn tf ta tl ty tz)=false:=zgX h
  unfold zc0;rw [this,Bool.false_and,Bool.false_and]
def zcx (w0 w:World) (f:Nat) (t:Tm) (e:Ending) (w':World):Prop:= ∃so' c',e= .returned (.tuple #[.agg #[.int .i64 (zf t).kind,.int .i64 (zf t).int,.int .i64 (zf t).gen,.string (zf t).name,.string (zf t).func,.int .i64 (zf t).arity,.slice so' (zf t).items.length c',.string (zf t).bytes,.int .i64 (zf t).bits],.bool (okK t)]) /\
 SlAt w0 9 (TmAt w0 f) so' (zf t).items/\Below w.heap.size w w'
section
variable (t:Tm) (so:Option Addr) (c f:Nat) (w0 w:World)
theorem zqb (hs:SlAt w0 9 (TmAt w0 f) so t.items) (hk:t.kind=0):Calls Tryz.prog 172 #[.agg #[.int .i64 t.kind,.int .i64 t.int,.int .i64 t.gen,.string t.name,.string t.func,.int .i64 t.arity,.slice so t.items.length c,.string t.bytes,.int .i64 t.bits]] w (zcx w0 w f t):=by
 have e1:zf t=t:=by unfold zf;simp [hk]
 have e2:okK t=false:=by unfold okK;simp [hk]
 refine(zma t.kind t.int t.gen t.name t.func t.arity so t.items.length c t.bytes t.bits w).mono ?_;exact zz23
theorem zpP (hs:SlAt w0 9 (TmAt w0 f) so t.items) (hk:t.kind=1):Calls Tryz.prog 173 #[.agg #[.int .i64 t.kind,.int .i64 t.int,.int .i64 t.gen,.string t.name,.string t.func,.int .i64 t.arity,.slice so t.items.length c,.string t.bytes,.int .i64 t.bits]] w (zcx w0 w f t):=by
 have e1:zf t= .mk t.kind 0 t.gen t.name t.func t.arity t.items t.bytes t.bits:=by unfold zf;simp [hk]
 have e2:okK t=true:=by unfold okK;simp [hk]
 refine(zoi t.kind t.int t.gen t.name t.func t.arity so t.items.length c t.bytes t.bits w).mono ?_;exact zz23
theorem zpb (hs:SlAt w0 9 (TmAt w0 f) so t.items) (hk:t.kind=2):Calls Tryz.prog 174 #[.agg #[.int .i64 t.kind,.int .i64 t.int,.int .i64 t.gen,.string t.name,.string t.func,.int .i64 t.arity,.slice so t.items.length c,.string t.bytes,.int .i64 t.bits]] w (zcx w0 w f t):=by
 have e1:zf t= .mk t.kind t.int t.gen ⟨#[]⟩ t.func t.arity t.items t.bytes t.bits:=by unfold zf;simp [hk]
 have e2:okK t=zy t.name:=by unfold okK;simp [hk]
 refine(zmX t.kind t.int t.gen t.name t.func t.arity so t.items.length c t.bytes t.bits w).mono ?_;exact zz23
theorem zpB (hs:SlAt w0 9 (TmAt w0 f) so t.items) (hk:t.kind=3):Calls Tryz.prog 170 #[.agg #[.int .i64 t.kind,.int .i64 t.int,.int .i64 t.gen,.string t.name,.string t.func,.int .i64 t.arity,.slice so t.items.length c,.string t.bytes,.int .i64 t.bits]] w (zcx w0 w f t):=by
 exact zz24
theorem zpH (hs:SlAt w0 9 (TmAt w0 f) so t.items) (hk:t.kind=4):Calls Tryz.prog 175 #[.agg #[.int .i64 t.kind,.int .i64 t.int,.int .i64 t.gen,.string t.name,.string t.func,.int .i64 t.arity,.slice so t.items.length c,.string t.bytes,.int .i64 t.bits]] w (zcx w0 w f t):=by
 have e1:zf t= .mk t.kind 0 0 ⟨#[]⟩ t.func 0 [] t.bytes t.bits:=by unfold zf;simp [hk]
 have e2:okK t=(wi t.int 0 999&&wi t.gen 1 2147483647&&zy t.name&&wi t.arity 0 16&&decide ((t.items.length:Int)<=(200:Nat))):=by rw [<-zmc];unfold okK;simp [hk]
 refine(zjq t.kind t.int t.gen t.name t.func t.arity so t.items.length c t.bytes t.bits w).mono ?_;exact zz25
theorem zpM (hs:SlAt w0 9 (TmAt w0 f) so t.items) (hk:t.kind=5):Calls Tryz.prog 176 #[.agg #[.int .i64 t.kind,.int .i64 t.int,.int .i64 t.gen,.string t.name,.string t.func,.int .i64 t.arity,.slice so t.items.length c,.string t.bytes,.int .i64 t.bits]] w (zcx w0 w f t):=by
 have e1:zf t= .mk t.kind t.int t.gen ⟨#[]⟩ ⟨#[]⟩ 0 t.items t.bytes t.bits:=by unfold zf;simp [hk]
 have e2:okK t=(zy t.name&&zy t.func&&wi t.arity 0 16):=by unfold okK;simp [hk]
 refine(zjN t.kind t.int t.gen t.name t.func t.arity so t.items.length c t.bytes t.bits w).mono ?_;exact zz23
theorem zph (hs:SlAt w0 9 (TmAt w0 f) so t.items) (hk:t.kind=6):Calls Tryz.prog 170 #[.agg #[.int .i64 t.kind,.int .i64 t.int,.int .i64 t.gen,.string t.name,.string t.func,.int .i64 t.arity,.slice so t.items.length c,.string t.bytes,.int .i64 t.bits]] w (zcx w0 w f t):=by
 exact zz24
theorem zqf (hs:SlAt w0 9 (TmAt w0 f) so t.items) (hk:t.kind=7):Calls Tryz.prog 177 #[.agg #[.int .i64 t.kind,.int .i64 t.int,.int .i64 t.gen,.string t.name,.string t.func,.int .i64 t.arity,.slice so t.items.length c,.string t.bytes,.int .i64 t.bits]] w (zcx w0 w f t):=by
 have e1:zf t= .mk t.kind t.int t.gen t.name t.func t.arity [] t.bytes t.bits:=by unfold zf;simp [hk]
 have e2:okK t=decide ((t.items.length:Int)<=(255:Nat)):=by rw [<-zmc];unfold okK;simp [hk]
 refine(zkP t.kind t.int t.gen t.name t.func t.arity so t.items.length c t.bytes t.bits w).mono ?_;exact zz25
theorem zpo (hs:SlAt w0 9 (TmAt w0 f) so t.items) (hk:t.kind=8):Calls Tryz.prog 178 #[.agg #[.int .i64 t.kind,.int .i64 t.int,.int .i64 t.gen,.string t.name,.string t.func,.int .i64 t.arity,.slice so t.items.length c,.string t.bytes,.int .i64 t.bits]] w (zcx w0 w f t):=by
 have e1:zf t= .mk t.kind t.int t.gen t.name t.func t.arity t.items t.bytes t.bits:=by unfold zf;simp [hk]
 have e2:okK t=true:=by unfold okK;simp [hk]
 refine(znX t.kind t.int t.gen t.name t.func t.arity so t.items.length c t.bytes t.bits w).mono ?_;exact zz23
theorem zpe (hs:SlAt w0 9 (TmAt w0 f) so t.items) (hb:Below w0.heap.size w0 w) (hl:t.items.length<=maxLen) (hk:t.kind=9):Calls Tryz.prog 179 #[.agg #[.int .i64 t.kind,.int .i64 t.int,.int .i64 t.gen,.string t.name,.string t.func,.int .i64 t.arity,.slice so t.items.length c,.string t.bytes,.int .i64 t.bits]] w (zcx w0 w f t):=by
 have e1:zf t= .mk t.kind t.int t.gen t.name t.func t.arity [] t.bytes t.bits:=by unfold zf;simp [hk]
 have e2:okK t=(decide (2<=t.items.length)&&decide (zfF t.items≠9)):=by unfold okK;simp [hk]
 by_cases h2:t.items.length<2
 ·refine(zk6 t.kind t.int t.gen t.name t.func t.arity so t.items.length c t.bytes t.bits w h2).mono ?_
  rintro e w' ⟨rfl,hb'⟩;refine⟨none,0,?_,?_,hb'⟩
  ·rw [e1,e2,decide_eq_false (by omega)];rfl
  ·rw [e1];exact SlAt.nil w0 9 _ none
 ·obtain⟨m,hm⟩: ∃m,t.items.length=m+2:=⟨t.items.length-2,by omega⟩
  have hm1:m+1<t.items.length:=by omega
  have hbf:=hs.row hm1;obtain⟨b,off,rfl,hbl,hrow⟩:=hbf;obtain⟨cs,_,hcs,hR⟩:=hrow (m+1) hm1
  have hcell:w.cell? ⟨b,off+(m+1)*9,none⟩=some (.int .i64 (t.items[m+1]).kind):=by
   refine(hb.cell (p:=⟨b,off+(m+1)*9,none⟩) hbl).trans ?_;rw [show off+(m+1)*9=off+(m+1)*9+0 by rfl,hcs 0 (by decide)]
   cases f with
   |zero=>exact hR.elim
   |succ f=>obtain⟨⟨ai,ci,rfl,_⟩,_⟩:=hR;rfl
  have hk9:zfF t.items=(t.items[m+1]).kind:=by
   unfold zfF;rw [List.getLast?_eq_getElem?,hm,show m+2-1=m+1 by rfl,zzq3 hm1]
  unfold maxLen at hl;have h:=zlf t.kind t.int t.gen t.name t.func t.arity c t.bytes t.bits w b off m (t.items[m+1]).kind (by omega) (zzW hbl hb.size) hcell;rw [<-hm]at h;refine h.mono ?_;rintro e w' ⟨rfl,hb'⟩;refine⟨none,0,?_,?_,hb'⟩
  ·rw [e1, e2, decide_eq_true (by omega), hk9, zzq15, show (t.items[m + 1].kind != 9) = decide (t.items[m + 1].kind ≠ 9) by (rw [Bool.eq_iff_iff, bne_iff_ne, zzq8])]; rfl
  ·rw [e1];exact SlAt.nil w0 9 _ none
theorem zoc (hs:SlAt w0 9 (TmAt w0 f) so t.items) (hy:t.bytes.size<=maxLen) (hz:I64 t.bits) (hk:t.kind=10):Calls Tryz.prog 180 #[.agg #[.int .i64 t.kind,.int .i64 t.int,.int .i64 t.gen,.string t.name,.string t.func,.int .i64 t.arity,.slice so t.items.length c,.string t.bytes,.int .i64 t.bits]] w (zcx w0 w f t):=by
 have e1:zf t= .mk t.kind t.int t.gen t.name t.func t.arity t.items ⟨#[]⟩ 0:=by unfold zf;simp [hk]
 have e2:okK t=zcz t.bytes t.bits:=by unfold okK zfN;simp [hk]
 refine(zml t.kind t.int t.gen t.name t.func t.arity so t.items.length c t.bytes t.bits w hy hz).mono ?_;exact zz23
end
def MeasAt (M:Nat) (s:Int) (w:World):Prop:=w.heap[M]?=some (.cells #[.func (.func 172) #[] #[],.func (.func 173) #[] #[],.func (.func 174) #[] #[],.func (.func 170) #[] #[],.func (.func 175) #[] #[],.func (.func 176) #[] #[],.func (.func 170) #[] #[],.func (.func 177) #[] #[],.func (.func 178) #[] #[],.func (.func 179) #[] #[],.func (.func 180) #[] #[],.int .i64 s] 196 (0,0))
theorem zby {W w:World} (h:Below W.heap.size W w):W.heap.size<=w.heap.size/\ ∀b o,b<W.heap.size->w.cell? ⟨b,o,none⟩=W.cell? ⟨b,o,none⟩:=⟨h.size,fun b o hb=>h.cell (p:=⟨b,o,none⟩) hb⟩
theorem zbI {W w:World} {o:Obj} (h:W.heap.size<=w.heap.size/\ ∀b o,b<W.heap.size->w.cell? ⟨b,o,none⟩=W.cell? ⟨b,o,none⟩):W.heap.size<=(w.alloc o).heap.size/\ ∀b q,b<W.heap.size->(w.alloc o).cell? ⟨b,q,none⟩=W.cell? ⟨b,q,none⟩:=
 ⟨by have:=h.1;simp;omega,fun b q hb=>(((zzR w.heap.size w).alloc (zzL _) o).cell (p:=⟨b,q,none⟩) (zzW hb h.1)).trans (h.2 b q hb)⟩
theorem zei {W w:World} {q:Nat} {v:Value} (h:W.heap.size<=w.heap.size/\ ∀b o,b<W.heap.size->w.cell? ⟨b,o,none⟩=W.cell? ⟨b,o,none⟩):W.heap.size<=(w.setCell ⟨W.heap.size,q,none⟩ v).heap.size/\ ∀b o,b<W.heap.size->(w.setCell ⟨W.heap.size,q,none⟩ v).cell? ⟨b,o,none⟩=W.cell? ⟨b,o,none⟩:=
 ⟨by simpa [World.setCell] using h.1,fun b o hb=>(World.cell?_of_block (Below.heap_setCell _ _ _ _ (Nat.ne_of_lt hb))).trans (h.2 b o hb)⟩
theorem zdF {W w:World} {v0 v1 v2 v3 v4 v5 v6 v7 v8:Value} (h:W.heap.size<=w.heap.size/\ ∀b o,b<W.heap.size->w.cell? ⟨b,o,none⟩=W.cell? ⟨b,o,none⟩):
  W.heap.size<=(((((((((w.setCell ⟨W.heap.size,0,none⟩ v0).setCell ⟨W.heap.size,1,none⟩ v1).setCell ⟨W.heap.size,2,none⟩ v2).setCell ⟨W.heap.size,3,none⟩ v3).setCell ⟨W.heap.size,4,none⟩ v4).setCell ⟨W.heap.size,5,none⟩ v5).setCell ⟨W.heap.size,6,none⟩ v6).setCell ⟨W.heap.size,7,none⟩ v7).setCell ⟨W.heap.size,8,none⟩ v8).heap.size /\
   ∀b o,b<W.heap.size->(((((((((w.setCell ⟨W.heap.size,0,none⟩ v0).setCell ⟨W.heap.size,1,none⟩ v1).setCell ⟨W.heap.size,2,none⟩ v2).setCell ⟨W.heap.size,3,none⟩ v3).setCell ⟨W.heap.size,4,none⟩ v4).setCell ⟨W.heap.size,5,none⟩ v5).setCell ⟨W.heap.size,6,none⟩ v6).setCell ⟨W.heap.size,7,none⟩ v7).setCell ⟨W.heap.size,8,none⟩ v8).cell? ⟨b,o,none⟩=W.cell? ⟨b,o,none⟩:=
 zei (zei (zei (zei (zei (zei (zei (zei (zei h))))))))
def zb0:List Nat->Nat
 |[]=>0
 |x::l=>x+zb0 l
def zR:Nat->Tm->Nat
 |0,_=>0
 |f+1,t=>300+t.items.length+zb0 (t.items.map (zR f))
def zeH (M:Nat) (s:Int) (cap:Nat) (ok:Bool) (add:Int) (w w':World):Prop:=w.grownBy w' (some M)/\ ∃s':Int,s<=s'/\s'<=s+cap/\MeasAt M s' w'/\(ok=true->s'=s+add)
def OfP (f:Nat):Prop:= ∀(t:Tm) (so:Option Addr) (c M:Nat) (s:Int) (w0 w:World),SlAt w0 9 (TmAt w0 f) so t.items->t.Ok->Below w0.heap.size w0 w->w0.heap.size<=M->MeasAt M s w->0<=s->s+zR (f+1) t<=1152921504606846976 ->
 Calls Tryz.prog 141 #[.pointer (some ⟨M,0,none⟩),.agg #[.int .i64 t.kind,.int .i64 t.int,.int .i64 t.gen,.string t.name,.string t.func,.int .i64 t.arity,.slice so t.items.length c,.string t.bytes,.int .i64 t.bits]] w fun e w'=>e= .returned (.bool (zh (f+1) t))/\zeH M s (zR (f+1) t) (zh (f+1) t) (zr (f+1) t) w w'
def CfP (f:Nat):Prop:= ∀(l:List Tm) (ao:Option Addr) (c M mb:Nat) (s:Int) (w0 w:World),SlAt w0 9 (TmAt w0 f) ao l->l.length<=maxLen->Below w0.heap.size w0 w->w0.heap.size<=M->MeasAt M s w->w.heap[mb]?=some (.cells #[.pointer (some ⟨M,0,none⟩)] 191 (0,0))->mb≠M->0<=s->s+zb0 (l.map (zR f))<=1152921504606846976 ->
 Calls Tryz.prog 182 #[.slice ao l.length c,.func (.func 183) #[] #[.pointer (some ⟨mb,0,none⟩)]] w fun e w'=>e= .returned (.bool (!(l.all (zh f))))/\zeH M s (zb0 (l.map (zR f))) (l.all (zh f)) (zbz (l.map (zr f))) w w'
theorem ze8 (w:World) (r o:Nat) (v:Value):w.grownBy (w.setCell ⟨r,o,none⟩ v) (some r):=
 ⟨rfl,rfl,rfl,by simp [World.setCell],fun k _ hk=>Below.heap_setCell _ _ _ _ (fun e=>hk (by rw [e]))⟩
theorem zeW (w:World) (o:Option Nat):w.grownBy w o:=⟨rfl,rfl,rfl,zzL _,fun _ _ _=>rfl⟩
theorem zbP {a b c:World} {o:Option Nat} (h:a.grownBy b o) (h':b.grownBy c o):a.grownBy c o:=
 ⟨h'.os.trans h.os,h'.tape.trans h.tape,h'.output.trans h.output,zzY h.size h'.size,fun k hk hn=>(h'.block k (zzW hk h.size) hn).trans (h.block k hk hn)⟩
theorem zf0 {a b:World} {o:Option Nat} (h:a.grownBy b o):a.grownBy b.drew o:=⟨h.os,h.tape,h.output,h.size,h.block⟩
theorem zcv {a b:World} (h:Below a.heap.size a b) (o:Option Nat):a.grownBy b o:=⟨h.os,h.tape,h.output,h.size,fun k hk _=>h.block k hk⟩
theorem zgU {M:Nat} {s s':Int} {w:World} (h:MeasAt M s w):MeasAt M s' (w.setCell ⟨M,11,none⟩ (.int .i64 s')):=zzS _ _ 11 _ _ (.int .i64 s') h
theorem MeasAt.below {M:Nat} {s:Int} {w w':World} (h:MeasAt M s w) (hb:Below w.heap.size w w'):MeasAt M s w':=(hb.block M (zd h)).trans h
theorem MeasAt.cell {M:Nat} {s:Int} {w:World} (h:MeasAt M s w):w.cell? ⟨M,11,none⟩=some (.int .i64 s)/\w.frozen? ⟨M,11,none⟩=false:=⟨zzq0 _ _ 11 _ _ _ h,zzq5 _ _ 11 _ _ h⟩
theorem zdG {w0 a b:World} {M:Nat} (h:Below w0.heap.size w0 a) (hg:a.grownBy b (some M)) (hM:w0.heap.size<=M):Below w0.heap.size w0 b:=h.grown hg h.size (fun k hk=>by cases hk;exact hM)
theorem zcm (t:Tm):(zf t).items.length<=t.items.length:=by
 unfold zf
 repeat' split
 all_goals first|exact zzL _|exact zzZ _
theorem zlF {t:Tm} (h:zc0 t=true) (hk:t.kind=10):0<=t.bits/\t.bits<=16384:=by
 unfold zc0 okK zfN zcz wi at h;simp only [hk]at h;simp at h;omega
theorem zms {t:Tm} (h:zc0 t=true) (hk:t.kind=9):2<=t.items.length:=by
 unfold zc0 okK at h;simp only [hk]at h;simp at h;omega
theorem zmo {t:Tm} (h: ¬(0<=t.kind/\t.kind<11)):zc0 t=false:=by
 unfold zc0;rw [zgX (by omega)];rfl
theorem zqB {f:Nat} (t:Tm) (so:zzA) (c M:Nat) (s:Int) (w0 w:World) (hm:MeasAt M s w) (hk: ¬(0<=t.kind/\t.kind<11)):
  Calls Tryz.prog 141 #[.pointer (some ⟨M,0,none⟩),.agg (zzt t so c)] w fun e w'=>e= .returned (.bool (zh (f+1) t))/\zeH M s (zR (f+1) t) (zh (f+1) t) (zr (f+1) t) w w':=by
 unfold zzt;have E:Hid (zh (f+1) t=false):=zzH (by unfold zh;rw [zmo hk];rfl);have H2:=zzH (zZ w (.cells #[.pointer (some ⟨M,0,none⟩)] 191) (.cells #[.int .i64 t.kind,.int .i64 t.int,.int .i64 t.gen,.string t.name,.string t.func,.int .i64 t.arity,.slice so t.items.length c,.string t.bytes,.int .i64 t.bits] 110));by_cases h0:t.kind<0
 ·exact zz26
 ·have h1:11<=t.kind:=by omega
  have h0':0<=t.kind:=by omega
  clear hk h0;exact zz26
theorem zqS {f:Nat} (HC:Hid (CfP f)) (t:Tm) (so:zzA) (c M:Nat) (s:Int) (w0 w:World) (ht:SlAt w0 9 (TmAt w0 f) so t.items) (hok:t.Ok) (hb:Below w0.heap.size w0 w) (hM:w0.heap.size<=M) (hm:MeasAt M s w) (hs0:0<=s) (hs1:s+zR (f+1) t<=1152921504606846976) (hk0:0<=t.kind) (hk1:t.kind<11):
  Calls Tryz.prog 141 #[.pointer (some ⟨M,0,none⟩),.agg (zzt t so c)] w fun e w'=>e= .returned (.bool (zh (f+1) t))/\zeH M s (zR (f+1) t) (zh (f+1) t) (zr (f+1) t) w w':=by
 unfold zzt;have hMl:=zd hm;refine zzK4 ht hok hb hm fun HT HOK HB HM=>?_;clear ht hok hb hm;generalize hkt:t.kind=tk at *;have HKT:=zzH hkt;clear hkt;go_in;go_upto_region 3 with fail;have r0:=zfy w (.cells #[.pointer (some ⟨M,0,none⟩)] 191) (.cells #[.int .i64 tk,.int .i64 t.int,.int .i64 t.gen,.string t.name,.string t.func,.int .i64 t.arity,.slice so t.items.length c,.string t.bytes,.int .i64 t.bits] 110);have r1:=zeP w (.cells #[.pointer (some ⟨M,0,none⟩)] 191) (.cells #[.int .i64 tk,.int .i64 t.int,.int .i64 t.gen,.string t.name,.string t.func,.int .i64 t.arity,.slice so t.items.length c,.string t.bytes,.int .i64 t.bits] 110);have hB2:=zZ w (.cells #[.pointer (some ⟨M,0,none⟩)] 191) (.cells #[.int .i64 tk,.int .i64 t.int,.int .i64 t.gen,.string t.name,.string t.func,.int .i64 t.arity,.slice so t.items.length c,.string t.bytes,.int .i64 t.bits] 110);have HM2:=zzH (HM.out.below hB2);have hMl2:M<((w.alloc (.cells #[.pointer (some ⟨M,0,none⟩)] 191)).alloc (.cells #[.int .i64 tk,.int .i64 t.int,.int .i64 t.gen,.string t.name,.string t.func,.int .i64 t.arity,.slice so t.items.length c,.string t.bytes,.int .i64 t.bits] 110)).heap.size:=zzW hMl hB2.size;generalize(w.alloc (.cells #[.pointer (some ⟨M,0,none⟩)] 191)).alloc (.cells #[.int .i64 tk,.int .i64 t.int,.int .i64 t.gen,.string t.name,.string t.func,.int .i64 t.arity,.slice so t.items.length c,.string t.bytes,.int .i64 t.bits] 110)=W2 at *;have HB2:=zzH hB2;have hBM:M<w.heap.size:=hMl;have HMB:Hid (w.heap.size≠M):=zzH (Nat.ne_of_gt hMl);have HWB:Hid (w0.heap.size<=w.heap.size):=zzH HB.out.size;have HML:=zzH hBM;obtain⟨q0,q1,q2,q3,q4,q5,q6,q7,q8,z1⟩:=zv r1;have b0:W2.cell? ⟨w.heap.size,0,none⟩=some (.pointer (some ⟨M,0,none⟩)):=by rw [zzq0 _ _ _ _ _ _ r0];rfl
 have hl0:=zd r0;have hl1:=zd r1;have R0:=zzH r0;have R1:=zzH r1;clear z1 r0 r1 hB2 hMl hBM;generalize hBe:w.heap.size=B at *;have HBW2:Hid (Below w.heap.size w W2):=zzH (by rw [hBe];exact HB2.out);have HBE:=zzH hBe;clear hBe;go_cut [5,6] (fun s5 s6 wx=> ∃(L:Nat) (so':zzA) (c':Nat),s5= .pointer (some ⟨L,0,none⟩)/\s6= .bool (okK t)/\W2.heap.size<=L/\SlAt w0 9 (TmAt w0 f) so' (zf t).items/\wx.heap[L]?=some (.cells #[.int .i64 (zf t).kind,.int .i64 (zf t).int,.int .i64 (zf t).gen,.string (zf t).name,.string (zf t).func,.int .i64 (zf t).arity,.slice so' (zf t).items.length c',.string (zf t).bytes,.int .i64 (zf t).bits] 110 (0,0))/\Below W2.heap.size W2 wx)
 case first=>
  have HDR:=zzH ((zzR W2.heap.size W2).drew);have HDA:=zzH (((zzR W2.heap.size W2).alloc (zzL _) (.cells #[.int .i64 0,.int .i64 0,.int .i64 0,.string ⟨#[]⟩,.string ⟨#[]⟩,.int .i64 0,.slice none 0 0,.string ⟨#[]⟩,.int .i64 0] 110)).drew);have SK0:=zzH (zby HDR.out);have SK1:=zzH (zby HDA.out);have HAN:Hid ((W2.alloc (.cells #[.int .i64 0,.int .i64 0,.int .i64 0,.string ⟨#[]⟩,.string ⟨#[]⟩,.int .i64 0,.slice none 0 0,.string ⟨#[]⟩,.int .i64 0] 110)).drew.heap[W2.heap.size]?=some (.cells zbH 110 (0,0))):=zzH (zzF W2 _)
  have hkk:tk=0\/tk=1\/tk=2\/tk=3\/tk=4\/tk=5\/tk=6\/tk=7\/tk=8\/tk=9\/tk=10:=by omega
  clear hk0 hk1 hs0 hs1;rcases hkk with rfl|rfl|rfl|rfl|rfl|rfl|rfl|rfl|rfl|rfl|rfl
  ·have hQ: ∀wx,Calls Tryz.prog 172 #[.agg #[.int .i64 0,.int .i64 t.int,.int .i64 t.gen,.string t.name,.string t.func,.int .i64 t.arity,.slice so t.items.length c,.string t.bytes,.int .i64 t.bits]] wx (zcx w0 wx f t):=fun wx=>by have h:=zqb t so c f w0 wx HT.out HKT.out;rwa [HKT.out]at h
   have n0:W2.cell? ⟨M,0,none⟩=some (.func (.func 172) #[] #[]):=zzq0 _ _ 0 _ _ _ HM2.out
   first|go_region_held3 (fun w'=>W2.heap.size<=w'.heap.size/\ ∀b o,b<W2.heap.size->w'.cell? ⟨b,o,none⟩=W2.cell? ⟨b,o,none⟩) (first|with_reducible exact HK5.out|with_reducible exact SK0.out|with_reducible exact zbI SK0.out|with_reducible exact SK1.out|with_reducible exact zbI HK5.out|with_reducible exact zdF HK5.out)
    ((go_at_call 172;refine(hQ _).mono ?_;rintro e w5 ⟨so',c',rfl,hs',hb5⟩;first|(have hbb:Below W2.heap.size W2 w5:=(by with_reducible exact ze HDR.out hb5);have HK5:=zzH (zby hbb))|(have hbb:Below W2.heap.size W2 w5:=(by with_reducible exact ze HDA.out hb5);have xl:w5.heap[W2.heap.size]?=some (.cells zbH 110 (0,0)):=(hb5.block W2.heap.size (zd HAN.out)).trans HAN.out;have XL:=zzH xl;obtain⟨l0,l1,l2,l3,l4,l5,l6,l7,l8,lz⟩:=zv xl;clear xl;have HK5:=zzH (zby hbb))))|fail
   ·exact zz30
   ·exact zz29
  ·have hQ: ∀wx,Calls Tryz.prog 173 #[.agg #[.int .i64 1,.int .i64 t.int,.int .i64 t.gen,.string t.name,.string t.func,.int .i64 t.arity,.slice so t.items.length c,.string t.bytes,.int .i64 t.bits]] wx (zcx w0 wx f t):=fun wx=>by have h:=zpP t so c f w0 wx HT.out HKT.out;rwa [HKT.out]at h
   have n0:W2.cell? ⟨M,1,none⟩=some (.func (.func 173) #[] #[]):=zzq0 _ _ 1 _ _ _ HM2.out
   first|go_region_held3 (fun w'=>W2.heap.size<=w'.heap.size/\ ∀b o,b<W2.heap.size->w'.cell? ⟨b,o,none⟩=W2.cell? ⟨b,o,none⟩) (first|with_reducible exact HK5.out|with_reducible exact SK0.out|with_reducible exact zbI SK0.out|with_reducible exact SK1.out|with_reducible exact zbI HK5.out|with_reducible exact zdF HK5.out)
    ((go_at_call 173;refine(hQ _).mono ?_;rintro e w5 ⟨so',c',rfl,hs',hb5⟩;first|(have hbb:Below W2.heap.size W2 w5:=(by with_reducible exact ze HDR.out hb5);have HK5:=zzH (zby hbb))|(have hbb:Below W2.heap.size W2 w5:=(by with_reducible exact ze HDA.out hb5);have xl:w5.heap[W2.heap.size]?=some (.cells zbH 110 (0,0)):=(hb5.block W2.heap.size (zd HAN.out)).trans HAN.out;have XL:=zzH xl;obtain⟨l0,l1,l2,l3,l4,l5,l6,l7,l8,lz⟩:=zv xl;clear xl;have HK5:=zzH (zby hbb))))|fail
   ·exact zz30
   ·exact zz29
  ·have hQ: ∀wx,Calls Tryz.prog 174 #[.agg #[.int .i64 2,.int .i64 t.int,.int .i64 t.gen,.string t.name,.string t.func,.int .i64 t.arity,.slice so t.items.length c,.string t.bytes,.int .i64 t.bits]] wx (zcx w0 wx f t):=fun wx=>by have h:=zpb t so c f w0 wx HT.out HKT.out;rwa [HKT.out]at h
   have n0:W2.cell? ⟨M,2,none⟩=some (.func (.func 174) #[] #[]):=zzq0 _ _ 2 _ _ _ HM2.out
   first|go_region_held3 (fun w'=>W2.heap.size<=w'.heap.size/\ ∀b o,b<W2.heap.size->w'.cell? ⟨b,o,none⟩=W2.cell? ⟨b,o,none⟩) (first|with_reducible exact HK5.out|with_reducible exact SK0.out|with_reducible exact zbI SK0.out|with_reducible exact SK1.out|with_reducible exact zbI HK5.out|with_reducible exact zdF HK5.out)
    ((go_at_call 174;refine(hQ _).mono ?_;rintro e w5 ⟨so',c',rfl,hs',hb5⟩;first|(have hbb:Below W2.heap.size W2 w5:=(by with_reducible exact ze HDR.out hb5);have HK5:=zzH (zby hbb))|(have hbb:Below W2.heap.size W2 w5:=(by with_reducible exact ze HDA.out hb5);have xl:w5.heap[W2.heap.size]?=some (.cells zbH 110 (0,0)):=(hb5.block W2.heap.size (zd HAN.out)).trans HAN.out;have XL:=zzH xl;obtain⟨l0,l1,l2,l3,l4,l5,l6,l7,l8,lz⟩:=zv xl;clear xl;have HK5:=zzH (zby hbb))))|fail
   ·exact zz30
   ·exact zz29
  ·have hQ: ∀wx,Calls Tryz.prog 170 #[.agg #[.int .i64 3,.int .i64 t.int,.int .i64 t.gen,.string t.name,.string t.func,.int .i64 t.arity,.slice so t.items.length c,.string t.bytes,.int .i64 t.bits]] wx (zcx w0 wx f t):=fun wx=>by have h:=zpB t so c f w0 wx HT.out HKT.out;rwa [HKT.out]at h
   have n0:W2.cell? ⟨M,3,none⟩=some (.func (.func 170) #[] #[]):=zzq0 _ _ 3 _ _ _ HM2.out;exact zz27
  ·have hQ: ∀wx,Calls Tryz.prog 175 #[.agg #[.int .i64 4,.int .i64 t.int,.int .i64 t.gen,.string t.name,.string t.func,.int .i64 t.arity,.slice so t.items.length c,.string t.bytes,.int .i64 t.bits]] wx (zcx w0 wx f t):=fun wx=>by have h:=zpH t so c f w0 wx HT.out HKT.out;rwa [HKT.out]at h
   have n0:W2.cell? ⟨M,4,none⟩=some (.func (.func 175) #[] #[]):=zzq0 _ _ 4 _ _ _ HM2.out
   first|go_region_held3 (fun w'=>W2.heap.size<=w'.heap.size/\ ∀b o,b<W2.heap.size->w'.cell? ⟨b,o,none⟩=W2.cell? ⟨b,o,none⟩) (first|with_reducible exact HK5.out|with_reducible exact SK0.out|with_reducible exact zbI SK0.out|with_reducible exact SK1.out|with_reducible exact zbI HK5.out|with_reducible exact zdF HK5.out)
    ((go_at_call 175;refine(hQ _).mono ?_;rintro e w5 ⟨so',c',rfl,hs',hb5⟩;first|(have hbb:Below W2.heap.size W2 w5:=(by with_reducible exact ze HDR.out hb5);have HK5:=zzH (zby hbb))|(have hbb:Below W2.heap.size W2 w5:=(by with_reducible exact ze HDA.out hb5);have xl:w5.heap[W2.heap.size]?=some (.cells zbH 110 (0,0)):=(hb5.block W2.heap.size (zd HAN.out)).trans HAN.out;have XL:=zzH xl;obtain⟨l0,l1,l2,l3,l4,l5,l6,l7,l8,lz⟩:=zv xl;clear xl;have HK5:=zzH (zby hbb))))|fail
   ·exact zz30
   ·exact zz29
  ·have hQ: ∀wx,Calls Tryz.prog 176 #[.agg #[.int .i64 5,.int .i64 t.int,.int .i64 t.gen,.string t.name,.string t.func,.int .i64 t.arity,.slice so t.items.length c,.string t.bytes,.int .i64 t.bits]] wx (zcx w0 wx f t):=fun wx=>by have h:=zpM t so c f w0 wx HT.out HKT.out;rwa [HKT.out]at h
   have n0:W2.cell? ⟨M,5,none⟩=some (.func (.func 176) #[] #[]):=zzq0 _ _ 5 _ _ _ HM2.out
   first|go_region_held3 (fun w'=>W2.heap.size<=w'.heap.size/\ ∀b o,b<W2.heap.size->w'.cell? ⟨b,o,none⟩=W2.cell? ⟨b,o,none⟩) (first|with_reducible exact HK5.out|with_reducible exact SK0.out|with_reducible exact zbI SK0.out|with_reducible exact SK1.out|with_reducible exact zbI HK5.out|with_reducible exact zdF HK5.out)
    ((go_at_call 176;refine(hQ _).mono ?_;rintro e w5 ⟨so',c',rfl,hs',hb5⟩;first|(have hbb:Below W2.heap.size W2 w5:=(by with_reducible exact ze HDR.out hb5);have HK5:=zzH (zby hbb))|(have hbb:Below W2.heap.size W2 w5:=(by with_reducible exact ze HDA.out hb5);have xl:w5.heap[W2.heap.size]?=some (.cells zbH 110 (0,0)):=(hb5.block W2.heap.size (zd HAN.out)).trans HAN.out;have XL:=zzH xl;obtain⟨l0,l1,l2,l3,l4,l5,l6,l7,l8,lz⟩:=zv xl;clear xl;have HK5:=zzH (zby hbb))))|fail
   ·exact zz30
   ·exact zz29
  ·have hQ: ∀wx,Calls Tryz.prog 170 #[.agg #[.int .i64 6,.int .i64 t.int,.int .i64 t.gen,.string t.name,.string t.func,.int .i64 t.arity,.slice so t.items.length c,.string t.bytes,.int .i64 t.bits]] wx (zcx w0 wx f t):=fun wx=>by have h:=zph t so c f w0 wx HT.out HKT.out;rwa [HKT.out]at h
   have n0:W2.cell? ⟨M,6,none⟩=some (.func (.func 170) #[] #[]):=zzq0 _ _ 6 _ _ _ HM2.out;exact zz27
  ·have hQ: ∀wx,Calls Tryz.prog 177 #[.agg #[.int .i64 7,.int .i64 t.int,.int .i64 t.gen,.string t.name,.string t.func,.int .i64 t.arity,.slice so t.items.length c,.string t.bytes,.int .i64 t.bits]] wx (zcx w0 wx f t):=fun wx=>by have h:=zqf t so c f w0 wx HT.out HKT.out;rwa [HKT.out]at h
   have n0:W2.cell? ⟨M,7,none⟩=some (.func (.func 177) #[] #[]):=zzq0 _ _ 7 _ _ _ HM2.out
   first|go_region_held3 (fun w'=>W2.heap.size<=w'.heap.size/\ ∀b o,b<W2.heap.size->w'.cell? ⟨b,o,none⟩=W2.cell? ⟨b,o,none⟩) (first|with_reducible exact HK5.out|with_reducible exact SK0.out|with_reducible exact zbI SK0.out|with_reducible exact SK1.out|with_reducible exact zbI HK5.out|with_reducible exact zdF HK5.out)
    ((go_at_call 177;refine(hQ _).mono ?_;rintro e w5 ⟨so',c',rfl,hs',hb5⟩;first|(have hbb:Below W2.heap.size W2 w5:=(by with_reducible exact ze HDR.out hb5);have HK5:=zzH (zby hbb))|(have hbb:Below W2.heap.size W2 w5:=(by with_reducible exact ze HDA.out hb5);have xl:w5.heap[W2.heap.size]?=some (.cells zbH 110 (0,0)):=(hb5.block W2.heap.size (zd HAN.out)).trans HAN.out;have XL:=zzH xl;obtain⟨l0,l1,l2,l3,l4,l5,l6,l7,l8,lz⟩:=zv xl;clear xl;have HK5:=zzH (zby hbb))))|fail
   ·exact zz30
   ·exact zz29
  ·have hQ: ∀wx,Calls Tryz.prog 178 #[.agg #[.int .i64 8,.int .i64 t.int,.int .i64 t.gen,.string t.name,.string t.func,.int .i64 t.arity,.slice so t.items.length c,.string t.bytes,.int .i64 t.bits]] wx (zcx w0 wx f t):=fun wx=>by have h:=zpo t so c f w0 wx HT.out HKT.out;rwa [HKT.out]at h
   have n0:W2.cell? ⟨M,8,none⟩=some (.func (.func 178) #[] #[]):=zzq0 _ _ 8 _ _ _ HM2.out
   first|go_region_held3 (fun w'=>W2.heap.size<=w'.heap.size/\ ∀b o,b<W2.heap.size->w'.cell? ⟨b,o,none⟩=W2.cell? ⟨b,o,none⟩) (first|with_reducible exact HK5.out|with_reducible exact SK0.out|with_reducible exact zbI SK0.out|with_reducible exact SK1.out|with_reducible exact zbI HK5.out|with_reducible exact zdF HK5.out)
    ((go_at_call 178;refine(hQ _).mono ?_;rintro e w5 ⟨so',c',rfl,hs',hb5⟩;first|(have hbb:Below W2.heap.size W2 w5:=(by with_reducible exact ze HDR.out hb5);have HK5:=zzH (zby hbb))|(have hbb:Below W2.heap.size W2 w5:=(by with_reducible exact ze HDA.out hb5);have xl:w5.heap[W2.heap.size]?=some (.cells zbH 110 (0,0)):=(hb5.block W2.heap.size (zd HAN.out)).trans HAN.out;have XL:=zzH xl;obtain⟨l0,l1,l2,l3,l4,l5,l6,l7,l8,lz⟩:=zv xl;clear xl;have HK5:=zzH (zby hbb))))|fail
   ·exact zz30
   ·exact zz29
  ·have hQ: ∀wx,Below W2.heap.size W2 wx->Calls Tryz.prog 179 #[.agg #[.int .i64 9,.int .i64 t.int,.int .i64 t.gen,.string t.name,.string t.func,.int .i64 t.arity,.slice so t.items.length c,.string t.bytes,.int .i64 t.bits]] wx (zcx w0 wx f t):=fun wx hbx=>by have h:=zpe t so c f w0 wx HT.out ((HB.out.trans (HB2.out.mono HWB.out)).trans (hbx.mono (zzY HB.out.size HB2.out.size))) HOK.out.2.2.2.2.2.2.1 HKT.out;rwa [HKT.out]at h
   have n0:W2.cell? ⟨M,9,none⟩=some (.func (.func 179) #[] #[]):=zzq0 _ _ 9 _ _ _ HM2.out
   first|go_region_held3 (fun w'=>W2.heap.size<=w'.heap.size/\ ∀b o,b<W2.heap.size->w'.cell? ⟨b,o,none⟩=W2.cell? ⟨b,o,none⟩) (first|with_reducible exact HK5.out|with_reducible exact SK0.out|with_reducible exact zbI SK0.out|with_reducible exact SK1.out|with_reducible exact zbI HK5.out|with_reducible exact zdF HK5.out)
    ((go_at_call 179;(first|(refine(hQ _ ?_).mono ?_;with_reducible exact HDR.out)|(refine(hQ _ ?_).mono ?_;with_reducible exact HDA.out));rintro e w5 ⟨so',c',rfl,hs',hb5⟩;first|(have hbb:Below W2.heap.size W2 w5:=(by with_reducible exact ze HDR.out hb5);have HK5:=zzH (zby hbb))|(have hbb:Below W2.heap.size W2 w5:=(by with_reducible exact ze HDA.out hb5);have xl:w5.heap[W2.heap.size]?=some (.cells zbH 110 (0,0)):=(hb5.block W2.heap.size (zd HAN.out)).trans HAN.out;have XL:=zzH xl;obtain⟨l0,l1,l2,l3,l4,l5,l6,l7,l8,lz⟩:=zv xl;clear xl;have HK5:=zzH (zby hbb))))|fail
   ·exact zz30
   ·exact zz29
  ·have hQ: ∀wx,Calls Tryz.prog 180 #[.agg #[.int .i64 10,.int .i64 t.int,.int .i64 t.gen,.string t.name,.string t.func,.int .i64 t.arity,.slice so t.items.length c,.string t.bytes,.int .i64 t.bits]] wx (zcx w0 wx f t):=fun wx=>by have h:=zoc t so c f w0 wx HT.out HOK.out.2.2.2.2.2.2.2.1 HOK.out.2.2.2.2.2.2.2.2 HKT.out;rwa [HKT.out]at h
   have n0:W2.cell? ⟨M,10,none⟩=some (.func (.func 180) #[] #[]):=zzq0 _ _ 10 _ _ _ HM2.out
   first|go_region_held3 (fun w'=>W2.heap.size<=w'.heap.size/\ ∀b o,b<W2.heap.size->w'.cell? ⟨b,o,none⟩=W2.cell? ⟨b,o,none⟩) (first|with_reducible exact HK5.out|with_reducible exact SK0.out|with_reducible exact zbI SK0.out|with_reducible exact SK1.out|with_reducible exact zbI HK5.out|with_reducible exact zdF HK5.out)
    ((go_at_call 180;refine(hQ _).mono ?_;rintro e w5 ⟨so',c',rfl,hs',hb5⟩;first|(have hbb:Below W2.heap.size W2 w5:=(by with_reducible exact ze HDR.out hb5);have HK5:=zzH (zby hbb))|(have hbb:Below W2.heap.size W2 w5:=(by with_reducible exact ze HDA.out hb5);have xl:w5.heap[W2.heap.size]?=some (.cells zbH 110 (0,0)):=(hb5.block W2.heap.size (zd HAN.out)).trans HAN.out;have XL:=zzH xl;obtain⟨l0,l1,l2,l3,l4,l5,l6,l7,l8,lz⟩:=zv xl;clear xl;have HK5:=zzH (zby hbb))))|fail
   ·exact zz30
   ·exact zz29
 case rest=>
  obtain⟨L,so',c',rfl,rfl,hL,hsl,hLr,hBx⟩:=hcut;rename World=>wc
  have HSL:=zzH hsl;clear hsl;obtain⟨x0,x1,x2,x3,x4,x5,x6,x7,x8,xz⟩:=zv hLr;refine zzK3 hLr hBx hL fun HLR HBX HL=>?_;clear hLr hBx hL q0 q1 q2 q3 q4 q5 q6 q7 q8 b0 hl0 hl1;have HMl2:=zzH hMl2;clear hMl2;have hq:okK t=false\/okK t=true:=by cases okK t<;>simp
  rcases hq with hq|hq
  ·have E:Hid (zh (f+1) t=false):=zzH (by unfold zh zc0;rw [hq];rfl)
   rw [hq];clear hq;go_wp2;go_ret;exact⟨zl E.out.symm,zcv (HBW2.out.trans ((HBX.out.mono (HBW2.out.size)).setCell (p:=⟨L,0,none⟩) (zzY HBW2.out.size HL.out) _)) _,s,Int.le_refl _,by omega,(zzq6 _ _ _ _ (Nat.ne_of_lt (zzW HMl2.out HL.out))).trans (HM2.out.below HBX.out),fun h=>absurd (E.out.symm.trans h) (by decide)⟩
  ·have HQ:=zzH hq
   rw [hq];clear hq;go_upto_region 5 with fail;have r6:(wc.setCell ⟨L,0,none⟩ (.int .i64 0)).heap[L]?=some (.cells #[.int .i64 0,.int .i64 (zf t).int,.int .i64 (zf t).gen,.string (zf t).name,.string (zf t).func,.int .i64 (zf t).arity,.slice so' (zf t).items.length c',.string (zf t).bytes,.int .i64 (zf t).bits] 110 (0,0)):=zzS _ _ 0 _ _ (.int .i64 0) HLR.out
   have hB6:Below w.heap.size w (wc.setCell ⟨L,0,none⟩ (.int .i64 0)):=HBW2.out.trans ((HBX.out.mono (HBW2.out.size)).setCell (p:=⟨L,0,none⟩) (zzY HBW2.out.size HL.out) _);have hB62:Below W2.heap.size W2 (wc.setCell ⟨L,0,none⟩ (.int .i64 0)):=HBX.out.setCell (p:=⟨L,0,none⟩) HL.out _;have HM6:Hid (MeasAt M s (wc.setCell ⟨L,0,none⟩ (.int .i64 0))):=zzH (HM2.out.below hB62);refine zzK3 ((hB62.block B (zd R0.out)).trans R0.out) ((hB62.block (B+1) (zd R1.out)).trans R1.out) hB6 fun HR0 HR1 HB6=>?_;clear hB6 hB62 x0 x1 x2 x3 x4 x5 x6 x7 x8 xz;generalize wc.setCell ⟨L,0,none⟩ (.int .i64 0)=w6 at *;have HB06:Hid (Below w0.heap.size w0 w6):=zzH (HB.out.trans (HB6.out.mono HB.out.size));have hSM:Calls Tryz.prog 181 #[.agg #[.int .i64 0,.int .i64 (zf t).int,.int .i64 (zf t).gen,.string (zf t).name,.string (zf t).func,.int .i64 (zf t).arity,.slice so' (zf t).items.length c',.string (zf t).bytes,.int .i64 (zf t).bits],.agg #[.int .i64 0,.int .i64 0,.int .i64 0,.string ⟨#[]⟩,.string ⟨#[]⟩,.int .i64 0,.slice none 0 0,.string ⟨#[]⟩,.int .i64 0]] w6 fun e w'=>e= .returned (.bool (zcd (f+1) (ze4 t) zeh))/\Below w6.heap.size w6 w':=zoB f (ze4 t) zeh so' none c' 0 w6 (HSL.out.tms HB06.out) (SlAt.nil _ _ _ _) (zzY (zcm t) HOK.out.2.2.2.2.2.2.1) (zzZ _)
   have HLO:Hid ((true&&zcd (f+1) (ze4 t) zeh)=zc0 t):=zzH (by rw [<-HQ.out];exact zme f t);obtain⟨x0,x1,x2,x3,x4,x5,x6,x7,x8,xz⟩:=zv r6;clear r6 xz;generalize zcd (f+1) (ze4 t) zeh=q at *
   cases q with
   |false=>
    have E:Hid (zh (f+1) t=false):=zzH (by unfold zh;rw [<-HLO.out];rfl);go_wp2_with fail;refine hSM.mono ?_;rintro e w7 ⟨rfl,hb7⟩;go_wp2;go_ret;exact⟨zl E.out.symm,zcv (ze HB6.out hb7) _,s,Int.le_refl _,by omega,HM6.out.below hb7,fun h=>absurd (E.out.symm.trans h) (by decide)⟩
   |true=>
    have HLB:Hid (zc0 t=true):=zzH HLO.out.symm;go_wp2_with fail;refine hSM.mono ?_;rintro e w7 ⟨rfl,hb7⟩;have hR0:=(hb7.block B (zd HR0.out)).trans HR0.out;have hR1:=(hb7.block (B+1) (zd HR1.out)).trans HR1.out;have HM7:=zzH (HM6.out.below hb7);have HB7:=zzH (ze HB6.out hb7);clear hb7 hSM x0 x1 x2 x3 x4 x5 x6 x7 x8;obtain⟨y0,y1,y2,y3,y4,y5,y6,y7,y8,yz⟩:=zv hR1;have b0:w7.cell? ⟨B,0,none⟩=some (.pointer (some ⟨M,0,none⟩)):=by rw [zzq0 _ _ _ _ _ _ hR0];rfl
    obtain⟨m11,mz⟩:=HM7.out.cell;have HR07:=zzH hR0;have HR17:=zzH hR1;clear hR0 hR1 yz;by_cases k9:tk=9
    ·subst k9
     have hl2:=zms HLB.out HKT.out;have hcap:(zR (f+1) t:Int)=300+(t.items.length:Int)+(zb0 (t.items.map (zR f)):Int):=by unfold zR;omega
     have hwr1:=zzV t.items.length (by omega)
     have hwr2:IntKind.i64.wrap (s+((t.items.length:Int)-1))=s+((t.items.length:Int)-1):=by rw [zzq2];omega
     go_upto_region 10 with fail;go_region;go_upto_region 13 with fail;have HM8:Hid (MeasAt M (s+((t.items.length:Int)-1)) (w7.setCell ⟨M,11,none⟩ (.int .i64 (s+((t.items.length:Int)-1)))).drew):=zzH (zgU HM7.out);have HG8:Hid (w.grownBy (w7.setCell ⟨M,11,none⟩ (.int .i64 (s+((t.items.length:Int)-1)))).drew (some M)):=zzH (zf0 (zbP (zcv HB7.out _) (ze8 _ _ _ _)));have hR0:(w7.setCell ⟨M,11,none⟩ (.int .i64 (s+((t.items.length:Int)-1)))).drew.heap[B]?=some (.cells #[.pointer (some ⟨M,0,none⟩)] 191 (0,0)):=(zzq6 _ _ _ _ (Nat.ne_of_gt HML.out)).trans HR07.out
     have hR1:(w7.setCell ⟨M,11,none⟩ (.int .i64 (s+((t.items.length:Int)-1)))).drew.heap[B+1]?=some (.cells #[.int .i64 9,.int .i64 t.int,.int .i64 t.gen,.string t.name,.string t.func,.int .i64 t.arity,.slice so t.items.length c,.string t.bytes,.int .i64 t.bits] 110 (0,0)):=(zzq6 _ _ _ _ (Nat.ne_of_gt (Nat.lt_succ_of_lt HML.out))).trans HR17.out
     have HB08:Hid (Below w0.heap.size w0 (w7.setCell ⟨M,11,none⟩ (.int .i64 (s+((t.items.length:Int)-1)))).drew):=zzH (zdG HB.out HG8.out hM);clear y0 y1 y2 y3 y4 y5 y6 y7 y8 b0 m11 mz;generalize(w7.setCell ⟨M,11,none⟩ (.int .i64 (s+((t.items.length:Int)-1)))).drew=w8 at *;obtain⟨y0,y1,y2,y3,y4,y5,y6,y7,y8,yz⟩:=zv hR1;have hCF:=HC.out t.items so c M B (s+((t.items.length:Int)-1)) w0 w8 HT.out HOK.out.2.2.2.2.2.2.1 HB08.out hM HM8.out hR0 (Nat.ne_of_gt HML.out) (by omega) (by omega);have EF:Hid (zh (f+1) t=t.items.all (zh f)):=zzH (by unfold zh;rw [HLB.out];rfl);have EW:Hid (zr (f+1) t=((t.items.length:Int)-1)+zbz (t.items.map (zr f))):=zzH (by unfold zr zbe;rw [HKT.out];rfl);exact zz28
    ·by_cases k10:tk=10
     ·subst k10
      obtain⟨hl2,hl3⟩:=zlF HLB.out HKT.out;have hcap:(zR (f+1) t:Int)=300+(t.items.length:Int)+(zb0 (t.items.map (zR f)):Int):=by unfold zR;omega
      have hwr0:IntKind.i64.wrap (t.bits+63)=t.bits+63:=by rw [zzq2];omega
      have hwd:(t.bits+63).tdiv 64=(t.bits+63)/64:=by rw [Int.tdiv_eq_ediv_of_nonneg (by omega)]
      have hwr1:IntKind.i64.wrap (1+(t.bits+63)/64)=1+(t.bits+63)/64:=by rw [zzq2];omega
      have hwr2:IntKind.i64.wrap (s+(1+(t.bits+63)/64))=s+(1+(t.bits+63)/64):=by rw [zzq2];omega
      go_upto_region 12 with fail;go_region;go_upto_region 13 with fail;have HM8:Hid (MeasAt M (s+(1+(t.bits+63)/64)) (w7.setCell ⟨M,11,none⟩ (.int .i64 (s+(1+(t.bits+63)/64)))).drew):=zzH (zgU HM7.out);have HG8:Hid (w.grownBy (w7.setCell ⟨M,11,none⟩ (.int .i64 (s+(1+(t.bits+63)/64)))).drew (some M)):=zzH (zf0 (zbP (zcv HB7.out _) (ze8 _ _ _ _)));have hR0:(w7.setCell ⟨M,11,none⟩ (.int .i64 (s+(1+(t.bits+63)/64)))).drew.heap[B]?=some (.cells #[.pointer (some ⟨M,0,none⟩)] 191 (0,0)):=(zzq6 _ _ _ _ (Nat.ne_of_gt HML.out)).trans HR07.out
      have hR1:(w7.setCell ⟨M,11,none⟩ (.int .i64 (s+(1+(t.bits+63)/64)))).drew.heap[B+1]?=some (.cells #[.int .i64 10,.int .i64 t.int,.int .i64 t.gen,.string t.name,.string t.func,.int .i64 t.arity,.slice so t.items.length c,.string t.bytes,.int .i64 t.bits] 110 (0,0)):=(zzq6 _ _ _ _ (Nat.ne_of_gt (Nat.lt_succ_of_lt HML.out))).trans HR17.out
      have HB08:Hid (Below w0.heap.size w0 (w7.setCell ⟨M,11,none⟩ (.int .i64 (s+(1+(t.bits+63)/64)))).drew):=zzH (zdG HB.out HG8.out hM);clear y0 y1 y2 y3 y4 y5 y6 y7 y8 b0 m11 mz;generalize(w7.setCell ⟨M,11,none⟩ (.int .i64 (s+(1+(t.bits+63)/64)))).drew=w8 at *;obtain⟨y0,y1,y2,y3,y4,y5,y6,y7,y8,yz⟩:=zv hR1;have hCF:=HC.out t.items so c M B (s+(1+(t.bits+63)/64)) w0 w8 HT.out HOK.out.2.2.2.2.2.2.1 HB08.out hM HM8.out hR0 (Nat.ne_of_gt HML.out) (by omega) (by omega);have EF:Hid (zh (f+1) t=t.items.all (zh f)):=zzH (by unfold zh;rw [HLB.out];rfl);have EW:Hid (zr (f+1) t=(1+(t.bits+63)/64)+zbz (t.items.map (zr f))):=zzH (by unfold zr zbe;rw [HKT.out];rfl);exact zz28
     ·have hcap:(zR (f+1) t:Int)=300+(t.items.length:Int)+(zb0 (t.items.map (zR f)):Int):=by unfold zR;omega
      have t9:(tk==9)=false:=zzB.2 k9;have t10:(tk==10)=false:=zzB.2 k10;have K9:=zzH k9;have K10:=zzH k10;clear k9 k10;go_upto_region 13 with fail;have HM8:Hid (MeasAt M (s+1) (w7.setCell ⟨M,11,none⟩ (.int .i64 (s+1)))):=zzH (zgU HM7.out);have HG8:Hid (w.grownBy (w7.setCell ⟨M,11,none⟩ (.int .i64 (s+1))) (some M)):=zzH ((zbP (zcv HB7.out _) (ze8 _ _ _ _)));have hR0:(w7.setCell ⟨M,11,none⟩ (.int .i64 (s+1))).heap[B]?=some (.cells #[.pointer (some ⟨M,0,none⟩)] 191 (0,0)):=(zzq6 _ _ _ _ (Nat.ne_of_gt HML.out)).trans HR07.out
      have hR1:(w7.setCell ⟨M,11,none⟩ (.int .i64 (s+1))).heap[B+1]?=some (.cells #[.int .i64 tk,.int .i64 t.int,.int .i64 t.gen,.string t.name,.string t.func,.int .i64 t.arity,.slice so t.items.length c,.string t.bytes,.int .i64 t.bits] 110 (0,0)):=(zzq6 _ _ _ _ (Nat.ne_of_gt (Nat.lt_succ_of_lt HML.out))).trans HR17.out
      have HB08:Hid (Below w0.heap.size w0 (w7.setCell ⟨M,11,none⟩ (.int .i64 (s+1)))):=zzH (zdG HB.out HG8.out hM);clear y0 y1 y2 y3 y4 y5 y6 y7 y8 b0 m11 mz;generalize(w7.setCell ⟨M,11,none⟩ (.int .i64 (s+1)))=w8 at *;obtain⟨y0,y1,y2,y3,y4,y5,y6,y7,y8,yz⟩:=zv hR1;have hCF:=HC.out t.items so c M B (s+1) w0 w8 HT.out HOK.out.2.2.2.2.2.2.1 HB08.out hM HM8.out hR0 (Nat.ne_of_gt HML.out) (by omega) (by omega);have EF:Hid (zh (f+1) t=t.items.all (zh f)):=zzH (by unfold zh;rw [HLB.out];rfl);have EW:Hid (zr (f+1) t=1+zbz (t.items.map (zr f))):=zzH (by unfold zr zbe;rw [HKT.out];rw [if_neg K9.out,if_neg K10.out]);exact zz28
theorem zmK {f:Nat} (HC:Hid (CfP f)):OfP f:=fun t so c M s w0 w ht hok hb hM hm hs0 hs1=>by
 by_cases hk:0<=t.kind/\t.kind<11
 ·exact zqS HC t so c M s w0 w ht hok hb hM hm hs0 hs1 hk.1 hk.2
 ·exact zqB t so c M s w0 w hm hk
theorem zmj {M:Nat} {s:Int} {c1:Nat} {o1:Bool} {a1:Int} {w w1 w2:World} (h:Below w.heap.size w w1) (h1:zeH M s c1 o1 a1 w1 w2):zeH M s c1 o1 a1 w w2:=⟨zbP (zcv h _) h1.1,h1.2⟩
theorem zp8 {f:Nat} (HO:Hid (OfP f)) (t:Tm) (so:zzA) (c M mb:Nat) (s:Int) (w0 w:World) (ht:SlAt w0 9 (TmAt w0 f) so t.items) (hok:t.Ok) (hb:Below w0.heap.size w0 w) (hM:w0.heap.size<=M) (hm:MeasAt M s w) (hmb:w.heap[mb]?=some (.cells #[.pointer (some ⟨M,0,none⟩)] 191 (0,0))) (hs0:0<=s) (hs1:s+zR (f+1) t<=1152921504606846976):
  Calls Tryz.prog 183 #[.agg (zzt t so c),.pointer (some ⟨mb,0,none⟩)] w fun e w'=>e= .returned (.bool (!(zh (f+1) t)))/\zeH M s (zR (f+1) t) (zh (f+1) t) (zr (f+1) t) w w':=by
 unfold zzt;have hB:Below w.heap.size w (w.alloc (.cells (zzt t so c) 110)):=zzE _ _;have hO:=HO.out t so c M s w0 (w.alloc (.cells (zzt t so c) 110)) ht hok (hb.trans (hB.mono hb.size)) hM (hm.below hB) hs0 hs1;have c0:w.cell? ⟨mb,0,none⟩=some (.pointer (some ⟨M,0,none⟩)):=by rw [zzq0 _ _ _ _ _ _ hmb];rfl
 have hl:=zd hmb;have HBB:=zzH hB;clear hmb hB hm hb ht hok hs0 hs1;generalize zh (f+1) t=r at *
 cases r
 all_goals
  go_in;go_wp2_with fail;refine hO.mono ?_;rintro e w5 ⟨rfl,hq⟩;have HQ:=zzH hq;clear hq;go_wp2;go_ret;exact⟨rfl,zmj HBB.out HQ.out⟩
theorem zhQ {f:Nat} {l:List Tm} {k:Nat} (h:k<l.length):zb0 ((l.drop k).map (zR f))=zR f l[k]+zb0 ((l.drop (k+1)).map (zR f)):=by
 rw [List.drop_eq_getElem_cons h,List.map_cons,zb0]
theorem zga {f:Nat} {l:List Tm} {k:Nat} (h:k<l.length):zbz ((l.drop k).map (zr f))=zr f l[k]+zbz ((l.drop (k+1)).map (zr f)):=by
 rw [List.drop_eq_getElem_cons h,List.map_cons,zbz]
theorem zfv {p:Tm->Bool} {l:List Tm} {k:Nat} (h:k<l.length):(l.drop k).all p=(p l[k]&&(l.drop (k+1)).all p):=by
 rw [List.drop_eq_getElem_cons h,List.all_cons]
def zo2 (M:Nat) (s:Int) (cap:Nat) (ok:Bool) (add:Int) (w:World) (e:Ending) (w':World):Prop:=(∃i:Int,e= .returned (.int .i64 i)/\decide (0<=i)= !ok)/\zeH M s cap ok add w w'
def GoQ (M:Nat) (s:Int) (f:Nat) (l:List Tm) (k:Nat) (w wr:World):Prop:=w.grownBy wr (some M)/\ ∃s',s<=s'/\s'+zb0 ((l.drop k).map (zR f))<=s+zb0 (l.map (zR f))/\MeasAt M s' wr/\l.all (zh f)=(l.drop k).all (zh f)/\s'+zbz ((l.drop k).map (zr f))=s+zbz (l.map (zr f))
theorem zoM {f:Nat} (HO:Hid (OfP f)) (l:List Tm) (ao:zzA) (c M mb:Nat) (s:Int) (w0 w:World) (ht:SlAt w0 9 (TmAt w0 (f+1)) ao l) (hl:l.length<=maxLen) (hb:Below w0.heap.size w0 w) (hM:w0.heap.size<=M) (hm:MeasAt M s w) (hmb:w.heap[mb]?=some (.cells #[.pointer (some ⟨M,0,none⟩)] 191 (0,0))) (hne:mb≠M) (hs0:0<=s) (hs1:s+zb0 (l.map (zR (f+1)))<=1152921504606846976):
  Calls Tryz.prog 200 #[.slice ao l.length c,.func (.func 183) #[] #[.pointer (some ⟨mb,0,none⟩)]] w (zo2 M s (zb0 (l.map (zR (f+1)))) (l.all (zh (f+1))) (zbz (l.map (zr (f+1)))) w):=by
 unfold maxLen at hl;refine zzK3 ht hb hmb fun HT HB HMB=>?_;have HG:Hid (GoQ M s (f+1) l 0 w w):=zzH ⟨zeW _ _,s,Int.le_refl _,by rw [List.drop_zero];omega,hm,rfl,by rw [List.drop_zero]⟩;have HML:=zzH (zd hmb);clear ht hb hmb hm;go_in;go_wp2_with fail;go_loopw [5,8] (fun _ i wr=> ∃k:Nat,k<=l.length/\i= .int .i64 k/\Hid (GoQ M s (f+1) l k w wr)) (fun _ i _=>l.length-(intOf i).toNat)
 case atStart=>exact⟨0,zzZ _,rfl,HG⟩
 case round=>
  obtain⟨k,hk,rfl,HK⟩:=hrel;rename World=>wr
  obtain⟨g1,s',z1,z2,z3,z4,z5⟩:=HK.out;have hB0r:Below w0.heap.size w0 wr:=zdG HB.out g1 hM;have hmbr:=(g1.block mb HML.out (fun e=>hne (zzf e))).trans HMB.out;by_cases hlt:k<l.length
  ·have hsa:=HT.out.tms hB0r
   obtain⟨b1,off1,ai,ci,hao,hb1,q0,q1,q2,q3,q4,q5,q6,q7,q8,hit,hok⟩:=hsa.tm hlt;obtain⟨b1',off1',ai',ci',hao',hb1',q0',q1',q2',q3',q4',q5',q6',q7',q8',hit',hok'⟩:=HT.out.tm hlt;subst hao;obtain⟨rfl,rfl⟩:b1=b1'/\off1=off1':=by injection hao' with h;injection h with h1 h2;exact⟨h1,h2⟩
   have hai:ai=ai':=by
    exact zz31
   subst hai;rw [zhQ hlt]at z2;rw [zfv hlt]at z4;rw [zga hlt]at z5;have hO:=zp8 HO l[k] ai ci M mb s' w0 wr hit' hok hB0r hM z3 hmbr (by omega) (by omega);refine zzK3 z2 z4 z5 fun Z2 Z4 Z5=>?_;clear hao' q0' q1' q2' q3' q4' q5' q6' q7' q8' hit' hok' hit hok hsa z2 z4 z5;generalize l[k]=x at *
   cases hr:zh (f+1) x with
   |true=>
    rw [hr]at hO;have Z4':Hid (l.all (zh (f+1))=(l.drop (k+1)).all (zh (f+1))):=zzH (by rw [Z4.out,hr,zzq15]);clear hr;go_wp2_with fail;refine hO.mono ?_;rintro e w5 ⟨rfl,g5,s5,y1,y2,y3,y4⟩;have HG5:Hid (GoQ M s (f+1) l (k+1) w w5):=zzH ⟨zbP g1 g5,s5,by omega,by have:=Z2.out;omega,y3,Z4'.out,by have:=Z5.out;have:=y4 rfl;omega⟩;exact zz32
   |false=>
    rw [hr]at hO;have Z4':Hid (l.all (zh (f+1))=false):=zzH (by rw [Z4.out,hr,Bool.false_and]);clear hr;go_wp2_with fail;refine hO.mono ?_;rintro e w5 ⟨rfl,g5,s5,y1,y2,y3,y4⟩;have HF:Hid (zeH M s (zb0 (l.map (zR (f+1)))) (l.all (zh (f+1))) (zbz (l.map (zr (f+1)))) w w5):=zzH ⟨zbP g1 g5,s5,by omega,by have:=Z2.out;omega,y3,fun h=>absurd (Z4'.out.symm.trans h) (by decide)⟩;have HE:Hid (decide (0<=(k:Int))= !(l.all (zh (f+1)))):=zzH (by rw [Z4'.out,decide_eq_true (by omega)];rfl);go_wp2;go_ret;exact⟨⟨_,rfl,HE.out⟩,HF.out⟩
  ·have hke:l.drop k= []:=zzq10 (by omega)
   rw [hke]at z2 z4 z5;have HF:Hid (zeH M s (zb0 (l.map (zR (f+1)))) (l.all (zh (f+1))) (zbz (l.map (zr (f+1)))) w wr):=zzH ⟨g1,s',z1,by simp only [List.map_nil,zb0]at z2;omega,z3,fun _=>by simp only [List.map_nil,zbz]at z5;omega⟩;have HE:Hid (decide (0<=(-1:Int))= !(l.all (zh (f+1)))):=zzH (by rw [z4];rfl);clear z2 z4 z5 hke;go_wp2;go_ret;exact⟨⟨_,rfl,HE.out⟩,HF.out⟩
theorem zoS (ao:zzA) (c M mb:Nat) (s:Int) (w:World) (hm:MeasAt M s w):
  Calls Tryz.prog 200 #[.slice ao 0 c,.func (.func 183) #[] #[.pointer (some ⟨mb,0,none⟩)]] w (zo2 M s 0 true 0 w):=by
 have HF:Hid (zeH M s 0 true 0 w w):=zzH ⟨zeW _ _,s,Int.le_refl _,by omega,hm,fun _=>by omega⟩;clear hm;go_in;go_wp2_with fail;go_loop [8] (fun i=>i= .int .i64 0) (fun _=>0)
 case atStart=>rfl
 case round=>
  obtain rfl:=hrel;go_wp2;go_ret;exact⟨⟨_,rfl,rfl⟩,HF.out⟩
theorem zo6 (l:List Tm) (ao:zzA) (c M mb:Nat) (s:Int) (cap:Nat) (ok:Bool) (add:Int) (w:World)
  (h:Calls Tryz.prog 200 #[.slice ao l.length c,.func (.func 183) #[] #[.pointer (some ⟨mb,0,none⟩)]] w (zo2 M s cap ok add w)):
  Calls Tryz.prog 182 #[.slice ao l.length c,.func (.func 183) #[] #[.pointer (some ⟨mb,0,none⟩)]] w fun e w'=>e= .returned (.bool (!ok))/\zeH M s cap ok add w w':=by
 go_in;go_wp2_with fail;refine h.mono ?_;rintro e w5 ⟨⟨i,rfl,hi⟩,hq⟩;have HI:=zzH hi;have HQ:=zzH hq;clear hi hq;go_wp2;go_ret;exact⟨zl HI.out,HQ.out⟩
theorem zmJ: ∀f,CfP f
 |0=>fun l ao c M mb s w0 w ht hl hb hM hm hmb hne hs0 hs1=>by
  obtain rfl:=ht.zero;exact zo6 [] ao c M mb s 0 true 0 w (zoS ao c M mb s w hm)
 |f+1=>fun l ao c M mb s w0 w ht hl hb hM hm hmb hne hs0 hs1=>
  zo6 l ao c M mb s _ _ _ w (zoM (zzH (zmK (zzH (zmJ f)))) l ao c M mb s w0 w ht hl hb hM hm hmb hne hs0 hs1)
theorem zqs (f:Nat):OfP f:=zmK (zzH (zmJ f))
theorem zmx (w:World):Calls Tryz.prog 140 #[] w fun e w'=>e= .returned (.agg #[.func (.func 172) #[] #[],.func (.func 173) #[] #[],.func (.func 174) #[] #[],.func (.func 170) #[] #[],.func (.func 175) #[] #[],.func (.func 176) #[] #[],.func (.func 170) #[] #[],.func (.func 177) #[] #[],.func (.func 178) #[] #[],.func (.func 179) #[] #[],.func (.func 180) #[] #[]])/\Below w.heap.size w w':=by
 go_in;go_wp2_with fail;exact zzj (v:=.agg #[.func (.func 172) #[] #[],.func (.func 173) #[] #[],.func (.func 174) #[] #[],.func (.func 170) #[] #[],.func (.func 175) #[] #[],.func (.func 176) #[] #[],.func (.func 170) #[] #[],.func (.func 177) #[] #[],.func (.func 178) #[] #[],.func (.func 179) #[] #[],.func (.func 180) #[] #[]]) (by simp [results,Tryz.results140,go_sem]) rfl ⟨rfl,zzE _ _⟩
def zlE (w:World) (ok:Bool) (n:Int) (e:Ending) (w':World):Prop:=e= .returned (.tuple #[.int .i64 (if ok=true then n else 0),.bool ok])/\Below w.heap.size w w'
theorem zpg {w w':World} {ok:Bool} {n:Int} (h:ok=false) (hb:Below w.heap.size w w'):zlE w ok n (.returned (.tuple #[.int .i64 0,.bool false])) w':=by subst h;exact⟨rfl,hb⟩
theorem zoz {w w':World} {ok:Bool} {n m:Int} (h:ok=true) (hn:m=n) (hb:Below w.heap.size w w'):zlE w ok n (.returned (.tuple #[.int .i64 m,.bool true])) w':=by subst h;subst hn;exact⟨rfl,hb⟩
theorem zpG (f:Nat) (l:List Tm) (ao:zzA) (c:Nat) (w:World) (ht:SlAt w 9 (TmAt w (f+1)) ao l) (hl:l.length<=maxLen) (hs1:(zb0 (l.map (zR (f+1))):Int)<=1152921504606846976):
  Calls Tryz.prog 122 #[.slice ao l.length c] w (zlE w (l.all (zh (f+1))) (zbz (l.map (zr (f+1))))):=by
 unfold maxLen at hl;have HT:=zzH ht;clear ht;go_in;go_wp2_with fail;refine(zmx _).mono ?_;rintro e w1 ⟨rfl,hb1⟩;go_wp2_with fail;have hm:=zzF w1 (.cells #[.func (.func 172) #[] #[],.func (.func 173) #[] #[],.func (.func 174) #[] #[],.func (.func 170) #[] #[],.func (.func 175) #[] #[],.func (.func 176) #[] #[],.func (.func 170) #[] #[],.func (.func 177) #[] #[],.func (.func 178) #[] #[],.func (.func 179) #[] #[],.func (.func 180) #[] #[],.int .i64 0] 196);have hb2:Below w.heap.size w (w1.alloc (.cells #[.func (.func 172) #[] #[],.func (.func 173) #[] #[],.func (.func 174) #[] #[],.func (.func 170) #[] #[],.func (.func 175) #[] #[],.func (.func 176) #[] #[],.func (.func 170) #[] #[],.func (.func 177) #[] #[],.func (.func 178) #[] #[],.func (.func 179) #[] #[],.func (.func 180) #[] #[],.int .i64 0] 196)):=hb1.alloc hb1.size _;have hM:w.heap.size<=w1.heap.size:=hb1.size;generalize w1.alloc (.cells #[.func (.func 172) #[] #[],.func (.func 173) #[] #[],.func (.func 174) #[] #[],.func (.func 170) #[] #[],.func (.func 175) #[] #[],.func (.func 176) #[] #[],.func (.func 170) #[] #[],.func (.func 177) #[] #[],.func (.func 178) #[] #[],.func (.func 179) #[] #[],.func (.func 180) #[] #[],.int .i64 0] 196)=W at *;generalize w1.heap.size=M at *;have HM:Hid (MeasAt M 0 W):=zzH hm;have HG:Hid (GoQ M 0 (f+1) l 0 W W):=zzH ⟨zeW _ _,0,Int.le_refl _,by rw [List.drop_zero];omega,hm,rfl,by rw [List.drop_zero]⟩;have HB:=zzH hb2;clear hm hb2 hb1;go_loopw [7,15] (fun _ i wr=> ∃k:Nat,k<=l.length/\i= .int .i64 k/\Hid (GoQ M 0 (f+1) l k W wr)) (fun _ i _=>l.length-(intOf i).toNat)
 case atStart=>exact⟨0,zzZ _,rfl,HG⟩
 case round=>
  obtain⟨k,hk,rfl,HK⟩:=hrel;rename World=>wr
  obtain⟨g1,s',z1,z2,z3,z4,z5⟩:=HK.out;have hB0r:Below w.heap.size w wr:=zdG HB.out g1 hM;by_cases hlt:k<l.length
  ·have hsa:=HT.out.tms hB0r
   obtain⟨b1,off1,ai,ci,hao,hb1,q0,q1,q2,q3,q4,q5,q6,q7,q8,hit,hok⟩:=hsa.tm hlt;obtain⟨b1',off1',ai',ci',hao',hb1',q0',q1',q2',q3',q4',q5',q6',q7',q8',hit',hok'⟩:=HT.out.tm hlt;subst hao;obtain⟨rfl,rfl⟩:b1=b1'/\off1=off1':=by injection hao' with h;injection h with h1 h2;exact⟨h1,h2⟩
   have hai:ai=ai':=by
    exact zz31
   subst hai;rw [zhQ hlt]at z2;rw [zfv hlt]at z4;rw [zga hlt]at z5;have hbx:Below wr.heap.size wr (wr.alloc (.cells (zzt l[k] ai ci) 110)):=zzE _ _;have HGX:Hid (W.grownBy (wr.alloc (.cells (zzt l[k] ai ci) 110)) (some M)):=zzH (zbP g1 (zcv hbx _));have hO:=zqs f l[k] ai ci M s' w (wr.alloc (.cells (zzt l[k] ai ci) 110)) hit' hok' (hB0r.trans (hbx.mono hB0r.size)) hM (z3.below hbx) (by omega) (by omega);refine zzK3 z2 z4 z5 fun Z2 Z4 Z5=>?_;clear hao' q0' q1' q2' q3' q4' q5' q6' q7' q8' hit' hok' hit hok hsa z2 z4 z5 hbx;generalize l[k]=x at *
   cases hr:zh (f+1) x with
   |true=>
    rw [hr]at hO;have Z4':Hid (l.all (zh (f+1))=(l.drop (k+1)).all (zh (f+1))):=zzH (by rw [Z4.out,hr,zzq15]);clear hr;go_wp2_with fail;refine hO.mono ?_;rintro e w5 ⟨rfl,g5,s5,y1,y2,y3,y4⟩;have HG5:Hid (GoQ M 0 (f+1) l (k+1) W w5):=zzH ⟨zbP HGX.out g5,s5,by omega,by have:=Z2.out;omega,y3,Z4'.out,by have:=Z5.out;have:=y4 rfl;omega⟩;exact zz32
   |false=>
    rw [hr]at hO;have Z4':Hid (l.all (zh (f+1))=false):=zzH (by rw [Z4.out,hr,Bool.false_and]);clear hr;go_wp2_with fail;refine hO.mono ?_;rintro e w5 ⟨rfl,g5,s5,y1,y2,y3,y4⟩;have HF:Hid (Below w.heap.size w w5):=zzH (zdG HB.out (zbP HGX.out g5) hM);go_wp2;go_ret2;exact zpg Z4'.out HF.out
  ·have hke:l.drop k= []:=zzq10 (by omega)
   rw [hke]at z4 z5;have E1:Hid (l.all (zh (f+1))=true):=zzH z4;have E2:Hid (s'=zbz (l.map (zr (f+1)))):=zzH (by simp only [List.map_nil,zbz]at z5;omega);obtain⟨m11,mz⟩:=z3.cell;clear z2 z4 z5 hke z3;go_wp2;go_ret2;exact zoz E1.out E2.out hB0r
def zdM (f:Nat) (t:Tm):Int:=if zh f t=true then(if 2000<zr f t then 3 else 0)else 2
theorem zll (f:Nat) (t:Tm) (so:zzA) (c:Nat) (w:World) (ht:SlAt w 9 (TmAt w f) so t.items) (hok:t.Ok) (hs1:(zR (f+1) t:Int)<=1152921504606846976):
  Calls Tryz.prog 91 #[.agg (zzt t so c)] w fun e w'=>e= .returned (.int .i64 (zdM (f+1) t))/\Below w.heap.size w w':=by
 unfold zzt;have hB:=zZ w (.cells #[.int .i64 t.kind,.int .i64 t.int,.int .i64 t.gen,.string t.name,.string t.func,.int .i64 t.arity,.slice so t.items.length c,.string t.bytes,.int .i64 t.bits] 110) (.cells #[.int .i64 t.kind,.int .i64 t.int,.int .i64 t.gen,.string t.name,.string t.func,.int .i64 t.arity,.slice so t.items.length c,.string t.bytes,.int .i64 t.bits] 110);have hr:=zeP w (.cells #[.int .i64 t.kind,.int .i64 t.int,.int .i64 t.gen,.string t.name,.string t.func,.int .i64 t.arity,.slice so t.items.length c,.string t.bytes,.int .i64 t.bits] 110) (.cells #[.int .i64 t.kind,.int .i64 t.int,.int .i64 t.gen,.string t.name,.string t.func,.int .i64 t.arity,.slice so t.items.length c,.string t.bytes,.int .i64 t.bits] 110)
 have hS:=zpG f [t] (some ⟨w.heap.size+1,0,none⟩) 1 ((w.alloc (.cells (zzt t so c) 110)).alloc (.cells (zzt t so c) 110)) (.inr ⟨w.heap.size+1,0,rfl,by simp,fun j hj=>by
  obtain rfl:j=0:=by simpa using hj
  refine⟨[.int .i64 t.kind,.int .i64 t.int,.int .i64 t.gen,.string t.name,.string t.func,.int .i64 t.arity,.slice so t.items.length c,.string t.bytes,.int .i64 t.bits],rfl,fun i hi=>?_,⟨so,c,rfl,ht.tms hB⟩,hok⟩;rw [show 0+0*9+i=i by omega,zzq0 _ _ _ _ _ _ hr];simp⟩) (by unfold maxLen;simp) (by simp [zb0];omega)
 have e1: [t].all (zh (f+1))=zh (f+1) t:=by simp
 have e2:zbz ([t].map (zr (f+1)))=zr (f+1) t:=by simp [zbz]
 rw [e1,e2]at hS;unfold zlE at hS;have E:Hid (zdM (f+1) t=if zh (f+1) t=true then(if 2000<zr (f+1) t then 3 else 0)else 2):=zzH rfl;have HB:=zzH hB;clear e1 e2 hr hB ht hok hs1;generalize zh (f+1) t=r at *;generalize zr (f+1) t=n at *
 cases r with
 |false=>
  rw [if_neg (by decide)]at E hS;exact zz33
 |true=>
  rw [if_pos rfl]at E hS;by_cases hn:2000<n
  ·rw [if_pos hn]at E
   exact zz33
  ·rw [if_neg hn]at E
   have hn':n<=2000:=by omega
   clear hn;exact zz33
theorem zfO (f:Nat) (t:Tm) (so:zzA) (c:Nat) (w:World) (ht:SlAt w 9 (TmAt w f) so t.items) (hok:t.Ok) (hs1:(zR (f+1) t:Int)<=1152921504606846976):
  Calls Tryz.prog 46 #[.agg (zzt t so c)] w fun e w'=>e= .returned (.bool (zM (f+1) t))/\Below w.heap.size w w':=by
 unfold zzt;have hB:Below w.heap.size w (w.alloc (.cells (zzt t so c) 110)):=zzE _ _;have hC:=zll f t so c (w.alloc (.cells (zzt t so c) 110)) (ht.tms hB) hok hs1
 have E:Hid ((zdM (f+1) t==0)=zM (f+1) t):=zzH (by
  unfold zdM zM
  cases zh (f+1) t
  ·rfl
  ·rw [if_pos rfl,zzq15]
   by_cases h:2000<zr (f+1) t
   ·rw [if_pos h,decide_eq_false (by omega)];rfl
   ·rw [if_neg h,decide_eq_true (by omega)];rfl)
 have HB:=zzH hB;clear hB ht hok hs1;generalize zdM (f+1) t=n at *;go_in;go_wp2_with fail;refine hC.mono ?_;rintro e w5 ⟨rfl,hb5⟩;go_wp2;go_ret;exact⟨zl E.out,ze HB.out hb5⟩
section
variable {P:Program} {ops:Array Oper} {Q:Exit->Act->World->Prop} {md:Region.Mode} {S1 S2:World->Prop} {p:Nat}
def zbD (P:Program) (md:Region.Mode) (ops:Array Oper) (Q:Exit->Act->World->Prop) (p:Nat) (S1 S2:World->Prop):Nat->Array Bool->Act->World->Prop
 |0,listed,a,w=>Region.ready md ops listed= []/\Q .normal a w
 |fuel+1,listed,a,w=>(Region.ready md ops listed= []->Q .normal a w) /\
  ∀i∈Region.ready md ops listed,wpOp P ops Q i (fun a' w'=>(S1 w'/\((listed.setIfInBounds i true).getD p false=false->S2 w'))/\zbD P md ops Q p S1 S2 fuel (listed.setIfInBounds i true) a' w') a w
theorem zhn: ∀(fuel:Nat) (listed:Array Bool) (a:Act) (w:World),zbD P md ops Q p S1 S2 fuel listed a w->wpAny P md ops Q fuel listed a w
 |0,_,_,_,h=>h
 |fuel+1,_,_,_,h=>⟨h.1,fun i hi=>wpOp_mono (fun a' w' h'=>zhn fuel _ a' w' h'.2) (h.2 i hi)⟩
def ClosedL (md:Region.Mode) (ops:Array Oper) (listed:Array Bool):Prop:= ∀j o,listed.getD j false=true->ops[j]?=some o-> ∀e∈o.after,Region.binds md e=true->listed.getD e.on false=true
def zfl (md:Region.Mode) (ops:Array Oper) (listed:Array Bool):Bool:=(List.range ops.size).all fun j=>!listed.getD j false||(match ops[j]? with
 |some o=>o.after.all fun e=>!Region.binds md e||listed.getD e.on false
 |none=>true)
theorem zgk {listed:Array Bool} (h:zfl md ops listed=true):ClosedL md ops listed:=fun j o hj ho e he hb=>by
 have h1:=zzp.1 h j (List.mem_range.2 (Array.getElem?_eq_some_iff.1 ho).1);rw [hj,ho]at h1;have h2:=Array.all_eq_true_iff_forall_mem.1 (show o.after.all (fun e=>!Region.binds md e||listed.getD e.on false)=true from by simpa using h1) e he;rw [hb]at h2
 simpa using h2
theorem ClosedL.set {listed:Array Bool} {j:Nat} (h:ClosedL md ops listed) (hj:j∈Region.ready md ops listed):ClosedL md ops (listed.setIfInBounds j true):=fun k o hk ho e he hb=>by
 by_cases c:j=k
 ·subst c
  obtain⟨-,o',ho',hall⟩:=mem_ready.1 hj;rw [ho]at ho';injection ho' with ho';subst ho';exact getD_set_true (hall e he hb)
 ·rw [getD_set_ne false c]at hk
  exact getD_set_true (h k o hk ho e he hb)
def zhl (md:Region.Mode) (ops:Array Oper) (j i:Nat):Bool:=match ops[j]? with
 |some o=>o.after.any fun e=>Region.binds md e&&e.on==i
 |none=>false
def zfn (md:Region.Mode) (ops:Array Oper):List Nat->Nat->Nat->Bool
 |[],j,i=>zhl md ops j i
 |k::r,j,i=>zhl md ops j k&&zfn md ops r k i
theorem zgh {listed:Array Bool} {i j:Nat} (h:zhl md ops j i=true) (hall: ∀o,ops[j]?=some o-> ∀e∈o.after,Region.binds md e=true->listed.getD e.on false=true):listed.getD i false=true:=by
 unfold zhl at h
 cases ho:ops[j]? with
 |none=>rw [ho]at h;cases h
 |some o=>
  rw [ho]at h;obtain⟨e,he,hb⟩:=Array.any_eq_true'.1 (show o.after.any (fun e=>Region.binds md e&&e.on==i)=true from h);rw [zzq4,beq_iff_eq]at hb;rw [<-hb.2];exact hall o ho e he hb.1
theorem zgg {listed:Array Bool} (hc:ClosedL md ops listed) {i:Nat}: ∀(r:List Nat) (j:Nat),zfn md ops r j i=true->(∀o,ops[j]?=some o-> ∀e∈o.after,Region.binds md e=true->listed.getD e.on false=true)->listed.getD i false=true
 |[],j,h,hall=>zgh h hall
 |k::r,j,h,hall=>by
  unfold zfn at h;rw [zzq4]at h;have hk:=zgh h.1 hall;exact zgg hc r k h.2 fun o ho e he hb=>hc k o hk ho e he hb
theorem zgd {i:Nat} {oi:Oper} {v:Value} {SA:World->Prop} (hi:ops[i]?=some oi) (hsel: ∀(j:Nat) (o:Oper) cs b,ops[j]?=some o->o.op≠ .select cs b)
  (hQ: ∀c a w,Q (.panic c) (a.put oi.dst v) w->Q (.panic c) a w) (hip:i≠p) (h0: ∀w,S1 w->S2 w->SA w)
  (h1:(∀w,S1 w->SA w)\/ ∃f,zfn md ops f p i=true):
  ∀(fuel:Nat) (listed:Array Bool) (a:Act) (w:World),ClosedL md ops listed ->
   (∀j oj,ops[j]?=some oj->j≠i->listed.getD j true=false->(∀e∈oj.after,Region.binds md e=true->e.on≠i)->oi.apart ops oj=true) ->
   i∈Region.ready md ops listed->(listed.getD p false=true-> ∀w,S1 w->SA w)->YieldsIf P ops SA oi v a->S1 w->(listed.getD p false=false->S2 w) ->
   zbD P md ops Q p S1 S2 fuel (listed.setIfInBounds i true) (a.put oi.dst v) w->zbD P md ops Q p S1 S2 (fuel+1) listed a w:=by
 intro fuel
 have key: ∀(listed:Array Bool) (w:World),(listed.getD p false=true-> ∀w,S1 w->SA w)->S1 w->(listed.getD p false=false->S2 w)->SA w:=fun listed w hp hs1 hs2=>by
  cases hb:listed.getD p false with
  |true=>exact hp hb w hs1
  |false=>exact h0 w hs1 (hs2 hb)
 have hbit: ∀listed:Array Bool,(listed.setIfInBounds i true).getD p false=listed.getD p false:=fun listed=>getD_set_ne false hip
 induction fuel with
 |zero=>
  intro listed a w _ _ hr hp hy hs1 hs2 H;refine⟨fun h=>(by rw [h]at hr;cases hr),fun j hj=>?_⟩;by_cases hji:j=i
  ·subst hji;exact hy.wpOp hi (key listed w hp hs1 hs2) ⟨⟨hs1,by rw [hbit];exact hs2⟩,H⟩
  ·have:=ready_mono hj hji
   rw [H.1]at this
   cases this
 |succ fuel ih=>
  intro listed a w hcl hfree hr hp hy hs1 hs2 H;refine⟨fun h=>(by rw [h]at hr;cases hr),fun j hj=>?_⟩;by_cases hji:j=i
  ·subst hji;exact hy.wpOp hi (key listed w hp hs1 hs2) ⟨⟨hs1,by rw [hbit];exact hs2⟩,H⟩
  ·have h2:=H.2 j (ready_mono hj hji)
   obtain⟨hjun,oj,hoj,hall⟩:=mem_ready.1 hj
   have hnot: ∀e∈oj.after,Region.binds md e=true->e.on≠i:=fun e he hb heq=>by
    have h3:=hall e he hb;have h4:=(mem_ready.1 hr).1;rw [heq]at h3;exact zz110
   have h3:=wpOp_putIf hoj (hfree j oj hoj hji hjun hnot) (fun cs b=>hsel i oi cs b hi) (fun cs b=>hsel j oj cs b hoj) hQ hy h2
   have hfree': ∀k ok,ops[k]?=some ok->k≠i->(listed.setIfInBounds j true).getD k true=false->(∀e∈ok.after,Region.binds md e=true->e.on≠i)->oi.apart ops ok=true:=fun k ok hk hki hun hno=>by
    refine hfree k ok hk hki ?_ hno;by_cases hjk:j=k
    ·subst hjk;exact hjun
    ·rw [getD_set_ne true hjk]at hun;exact hun
   have hp':(listed.setIfInBounds j true).getD p false=true-> ∀w,S1 w->SA w:=fun hb=>by
    by_cases hjp:j=p
    ·rcases h1 with h1|⟨f,hf⟩
     ·exact h1
     ·subst hjp
      have h3:=zgg hcl f j hf fun o ho e he hb=>by
       rw [hoj]at ho;injection ho with ho;subst ho;exact hall e he hb
      have h4:=(mem_ready.1 hr).1;exact zz110
    ·rw [getD_set_ne false hjp]at hb;exact hp hb
   have hsw:((listed.setIfInBounds i true).setIfInBounds j true).getD p false=(listed.setIfInBounds j true).getD p false:=by
    rw [Array.setIfInBounds_comm _ _ (Ne.symm hji)];exact hbit _
   refine wpOp_mono (fun a' w' h4=>?_) h3;obtain⟨hy',⟨hs1',hs2'⟩,hrest⟩:=h4;rw [hsw]at hs2';refine⟨⟨hs1',hs2'⟩,ih (listed.setIfInBounds j true) a' w' (hcl.set hj) hfree' (ready_mono hr (Ne.symm hji)) hp' hy' hs1' hs2' ?_⟩;rw [Array.setIfInBounds_comm _ _ hji];exact hrest
theorem ziT (r:List Nat) {i:Nat} {oi:Oper} {v:Value} {fuel:Nat} {listed:Array Bool} {a:Act} {w:World} (hi:ops[i]?=some oi)
  (hs : Region.noSelect ops = true) (hf : Region.free md ops listed i = true) (hr : (Region.ready md ops listed).contains i = true) (hp : (i != p && (!listed.getD p false && (zfl md ops listed && zfn md ops r p i))) = true)
  (hQ: ∀c a w,Q (.panic c) (a.put oi.dst v) w->Q (.panic c) a w) (hy:YieldsIf P ops (fun w=>S1 w/\S2 w) oi v a) (hS:S1 w/\S2 w)
  (h:zbD P md ops Q p S1 S2 fuel (listed.setIfInBounds i true) (a.put oi.dst v) w):zbD P md ops Q p S1 S2 (fuel+1) listed a w:=by
 rw [zzq4,zzq4,zzq4]at hp;obtain⟨h1,h2,h3,h4⟩:=hp;have hl:listed.getD p false=false:=by simpa using h2
 exact zgd (SA:=fun w=>S1 w/\S2 w) hi (Region.noSelect_spec hs) hQ (by simpa using h1) (fun w a b=>⟨a,b⟩) (.inr ⟨_,h4⟩) fuel listed a w (zgk h3) (Region.free_spec hi hf) (by simpa using hr) (fun h=>by rw [hl]at h;cases h) hy hS.1 (fun _=>hS.2) h
theorem zet {i:Nat} {oi:Oper} {v:Value} {fuel:Nat} {listed:Array Bool} {a:Act} {w:World} (hi:ops[i]?=some oi)
  (hs : Region.noSelect ops = true) (hf : Region.free md ops listed i = true) (hr : (Region.ready md ops listed).contains i = true) (hp : (i != p && (!listed.getD p false && zfl md ops listed)) = true)
  (hQ: ∀c a w,Q (.panic c) (a.put oi.dst v) w->Q (.panic c) a w) (hy:YieldsIf P ops S1 oi v a) (hS:S1 w/\S2 w)
  (h:zbD P md ops Q p S1 S2 fuel (listed.setIfInBounds i true) (a.put oi.dst v) w):zbD P md ops Q p S1 S2 (fuel+1) listed a w:=by
 rw [zzq4,zzq4]at hp;have hl:listed.getD p false=false:=by simpa using hp.2.1
 exact zgd (SA:=S1) hi (Region.noSelect_spec hs) hQ (by simpa using hp.1) (fun w a _=>a) (.inl fun _ h=>h) fuel listed a w (zgk hp.2.2) (Region.free_spec hi hf) (by simpa using hr) (fun h=>by rw [hl]at h;cases h) hy hS.1 (fun _=>hS.2) h
theorem zk3 {i:Nat} {o:Oper} {fuel:Nat} {listed:Array Bool} {a:Act} {w:World} (hr:Region.ready md ops listed= [i]) (ho:ops[i]?=some o)
  (h: ∀K:Act->World->Prop,Hid (∀a' w',(S1 w'/\S2 w')->zbD P md ops Q p S1 S2 fuel (listed.setIfInBounds i true) a' w'->K a' w')->(if Region.wanted o (yielded ops a.tmps)=true then Oper.wp P o a w K Q else K (a.put o.dst undef) w)):
  zbD P md ops Q p S1 S2 (fuel+1) listed a w:=by
 refine⟨fun h0=>(by rw [hr]at h0;cases h0),fun j hj=>?_⟩;rw [hr,List.mem_singleton]at hj;subst hj;have h1:=h (fun a' w'=>(S1 w'/\((listed.setIfInBounds j true).getD p false=false->S2 w'))/\zbD P md ops Q p S1 S2 fuel (listed.setIfInBounds j true) a' w') (zzH fun a' w' h1 h2=>⟨⟨h1.1,fun _=>h1.2⟩,h2⟩);unfold wpOp;rw [ho];show if Region.wanted o (yielded ops a.tmps)=true then _ else _
 split
 ·rename_i hw;rw [if_pos hw]at h1;exact .inl h1
 ·rename_i hw;rw [if_neg hw]at h1;exact h1
theorem zlx {i:Nat} {o:Oper} {fuel:Nat} {listed:Array Bool} {a:Act} {w:World} (hr:Region.ready md ops listed= [i]) (ho:ops[i]?=some o) (hp:(listed.setIfInBounds i true).getD p false=true)
  (h: ∀K:Act->World->Prop,Hid (∀a' w',S1 w'->zbD P md ops Q p S1 S2 fuel (listed.setIfInBounds i true) a' w'->K a' w')->(if Region.wanted o (yielded ops a.tmps)=true then Oper.wp P o a w K Q else K (a.put o.dst undef) w)):
  zbD P md ops Q p S1 S2 (fuel+1) listed a w:=by
 refine⟨fun h0=>(by rw [hr]at h0;cases h0),fun j hj=>?_⟩;rw [hr,List.mem_singleton]at hj;subst hj;have h1:=h (fun a' w'=>(S1 w'/\((listed.setIfInBounds j true).getD p false=false->S2 w'))/\zbD P md ops Q p S1 S2 fuel (listed.setIfInBounds j true) a' w') (zzH fun a' w' h1 h2=>⟨⟨h1,fun h3=>(by rw [hp]at h3;cases h3)⟩,h2⟩);unfold wpOp;rw [ho];show if Region.wanted o (yielded ops a.tmps)=true then _ else _
 split
 ·rename_i hw;rw [if_pos hw]at h1;exact .inl h1
 ·rename_i hw;rw [if_neg hw]at h1;exact h1
theorem zt (r:List Nat) (i:Nat) {oi:Oper} {v:Value} {fuel:Nat} {listed:Array Bool} {a:Act} {w:World} (hS:S1 w/\S2 w)
  (h:zbD P md ops Q p S1 S2 fuel (listed.setIfInBounds i true) (a.put oi.dst v) w) (hi:ops[i]?=some oi:=by exact rfl)
  (hs : Region.noSelect ops = true := by kernel_rfl) (hf : Region.free md ops listed i = true := by kernel_rfl) (hr : (Region.ready md ops listed).contains i = true := by kernel_rfl) (hp : (i != p && (!listed.getD p false && (zfl md ops listed && zfn md ops r p i))) = true := by kernel_rfl)
  (hQ: ∀c a w,Q (.panic c) (a.put oi.dst v) w->Q (.panic c) a w:=by exact fun _ _ _ h=>h)
  (hy:YieldsIf P ops (fun w=>S1 w/\S2 w) oi v a:=by(refine Or.inl ⟨by rfl,?_⟩;intro w hSw;(try dsimp only [zzrSot,zzrSt,zzrS,zzrU,zzrIot]at hSw);go_simp;try with_reducible rfl)):zbD P md ops Q p S1 S2 (fuel+1) listed a w:=
 ziT r hi hs hf hr hp hQ hy hS h
theorem zg (i:Nat) {oi:Oper} {v:Value} {fuel:Nat} {listed:Array Bool} {a:Act} {w:World} (hS:S1 w/\S2 w)
  (h:zbD P md ops Q p S1 S2 fuel (listed.setIfInBounds i true) (a.put oi.dst v) w) (hi:ops[i]?=some oi:=by exact rfl)
  (hs : Region.noSelect ops = true := by kernel_rfl) (hf : Region.free md ops listed i = true := by kernel_rfl) (hr : (Region.ready md ops listed).contains i = true := by kernel_rfl) (hp : (i != p && (!listed.getD p false && zfl md ops listed)) = true := by kernel_rfl)
  (hQ: ∀c a w,Q (.panic c) (a.put oi.dst v) w->Q (.panic c) a w:=by exact fun _ _ _ h=>h)
  (hy:YieldsIf P ops S1 oi v a:=by(refine Or.inl ⟨by rfl,?_⟩;intro w hSw;(try dsimp only [zzrSot,zzrSt,zzrS,zzrU,zzrIot]at hSw);go_simp;try with_reducible rfl)):zbD P md ops Q p S1 S2 (fuel+1) listed a w:=
 zet hi hs hf hr hp hQ hy hS h
theorem zE (i:Nat) {o:Oper} {fuel:Nat} {listed:Array Bool} {a:Act} {w:World}
  (h: ∀K:Act->World->Prop,Hid (∀a' w',(S1 w'/\S2 w')->zbD P md ops Q p S1 S2 fuel (listed.setIfInBounds i true) a' w'->K a' w')->(if Region.wanted o (yielded ops a.tmps)=true then Oper.wp P o a w K Q else K (a.put o.dst undef) w))
  (hr:Region.ready md ops listed= [i]:=by kernel_rfl) (ho:ops[i]?=some o:=by exact rfl):
  zbD P md ops Q p S1 S2 (fuel+1) listed a w:=zk3 hr ho h
theorem zO (i:Nat) {o:Oper} {fuel:Nat} {listed:Array Bool} {a:Act} {w:World}
  (h: ∀K:Act->World->Prop,Hid (∀a' w',S1 w'->zbD P md ops Q p S1 S2 fuel (listed.setIfInBounds i true) a' w'->K a' w')->(if Region.wanted o (yielded ops a.tmps)=true then Oper.wp P o a w K Q else K (a.put o.dst undef) w))
  (hr:Region.ready md ops listed= [i]:=by kernel_rfl) (ho:ops[i]?=some o:=by exact rfl) (hp:(listed.setIfInBounds i true).getD p false=true:=by kernel_rfl):
  zbD P md ops Q p S1 S2 (fuel+1) listed a w:=zlx hr ho hp h
theorem zbq {listed:Array Bool} {a:Act} {w:World} (hr:Region.ready md ops listed= []) (h:Q .normal a w): ∀fuel,zbD P md ops Q p S1 S2 fuel listed a w
 |0=>⟨hr,h⟩
 |_+1=>⟨fun _=>h,by rw [hr];simp⟩
theorem zbr {id:Nat} {a:Act} {w:World} (p:Nat) (S1 S2:World->Prop) (hm:P.follows .mixedOrders=true) (hS:S1 w.drew/\S2 w.drew)
  (h:S1 w.drew/\S2 w.drew->zbD P .any ops Q p S1 S2 ops.size (Array.replicate ops.size false) a w.drew):(Code.region id ops true).wp P Q a w:=
 wp_region_any hm (zhn _ _ _ _ (h hS))
end
def zdQ:List Bool->Nat
 |[]=>0
 |b::l=>(if b then 0 else 1)+zdQ l
theorem zg1: ∀(l:List Bool) (i:Nat),l[i]?=some false->zdQ (l.set i true)+1=zdQ l
 |[],i,h=>by simp at h
 |b::l,0,h=>by
  simp at h;subst h;show 0+zdQ l+1=1+zdQ l;omega
 |b::l,i+1,h=>by
  have:=zg1 l i (by simpa using h);show(if b then 0 else 1)+zdQ (l.set i true)+1=(if b then 0 else 1)+zdQ l;omega
theorem zgE: ∀(l:List Bool),zdQ l=0-> ∀(i:Nat) b,l[i]?=some b->b=true
 |[],_,i,b,h=>by simp at h
 |b::l,h0,0,c,h=>by
  simp at h;subst h
  cases b with
  |true=>rfl
  |false=>have:1+zdQ l=0:=h0;omega
 |b::l,h0,i+1,c,h=>zgE l (by have:(if b then 0 else 1)+zdQ l=0:=h0;omega) i c (by simpa using h)
section
variable {P:Program} {ops:Array Oper} {Q:Exit->Act->World->Prop} {md:Region.Mode}
theorem zh6 {listed:Array Bool} {i:Nat} (h:i∈Region.ready md ops listed):i<ops.size/\listed.getD i true=false/\ ∀o,ops[i]?=some o-> ∀e∈o.after,Region.binds md e=true->listed.getD e.on false=true:=by
 unfold Region.ready at h;obtain⟨h1,h2⟩:=List.mem_filter.1 h;rw [zzq4]at h2;refine⟨List.mem_range.1 h1,by simpa using h2.1,fun o ho e he hb=>?_⟩;have h3:=h2.2;rw [ho]at h3;have h4:=Array.all_eq_true_iff_forall_mem.1 (show o.after.all (fun e=>!Region.binds md e||listed.getD e.on false)=true from h3) e he;rw [hb]at h4;exact h4
theorem mem_ready {listed:Array Bool} {i:Nat} {o:Oper} (hi:ops[i]?=some o) (h1:listed.getD i true=false) (h2: ∀e∈o.after,Region.binds md e=true->listed.getD e.on false=true):i∈Region.ready md ops listed:=by
 unfold Region.ready;refine List.mem_filter.2 ⟨List.mem_range.2 (Array.getElem?_eq_some_iff.1 hi).1,?_⟩;rw [zzq4,hi];refine⟨by rw [h1];rfl,?_⟩;show o.after.all _=true;refine Array.all_eq_true_iff_forall_mem.2 fun e he=>?_
 cases hb:Region.binds md e with
 |false=>rfl
 |true=>rw [h2 e he hb];rfl
theorem zhK {i:Nat} {o:Oper} {K:Act->World->Prop} {a:Act} {w:World} (ho:ops[i]?=some o) (hg:o.guard=none) (h:o.wp P a w K Q):wpOp P ops Q i K a w:=by
 unfold wpOp;rw [ho];have hw:Region.wanted o (yielded ops a.tmps)=true:=by simp [Region.wanted,hg]
 simp only [hw,if_true];exact .inl h
end
def zeO:List Int:=[2,3,4,14,15,16,17,18,19,20,21,22,23,27,35,36]
theorem zjP {op:Int} {k:Nat} (h:k<16) (hh:zeO[k]'h=op):zbu op=true:=by
 unfold zbu;exact zzT (by rw [<-hh];exact zzM h)
theorem zgJ (op:Int) (w:World):
  Calls Tryz.prog 88 #[.int .i64 op] w fun e w'=>e= .returned (.bool (zbu op))/\Below w.heap.size w w':=by
 go_in;go_wp2_with fail
 have hcell: ∀k (h:k<16),(w.alloc (.cells #[.int .i64 2,.int .i64 3,.int .i64 4,.int .i64 14,.int .i64 15,.int .i64 16,.int .i64 17,.int .i64 18,.int .i64 19,.int .i64 20,.int .i64 21,.int .i64 22,.int .i64 23,.int .i64 27,.int .i64 35,.int .i64 36] 3)).cell? ⟨w.heap.size,k,none⟩=some (.int .i64 (zeO[k]'h)):=fun k h=>by
  rw [World.cell?_alloc_at _ _ _ _ rfl]
  match k,h with
  |0,_=>rfl
  |1,_=>rfl
  |2,_=>rfl
  |3,_=>rfl
  |4,_=>rfl
  |5,_=>rfl
  |6,_=>rfl
  |7,_=>rfl
  |8,_=>rfl
  |9,_=>rfl
  |10,_=>rfl
  |11,_=>rfl
  |12,_=>rfl
  |13,_=>rfl
  |14,_=>rfl
  |15,_=>rfl
  |k+16,h=>exact absurd h (by omega)
 have HB:=zzH hcell;clear hcell;generalize hW:w.alloc _=W at *;have hbel:Below w.heap.size w W:=by rw [<-hW];exact zzE _ _
 clear hW;go_loop [4] (fun i=> ∃k:Nat,k<=16/\i= .int .i64 k/\Hid (∀j (h:j<16),j<k->zeO[j]'h≠op)) (fun i=>16-(intOf i).toNat)
 case atStart=>exact⟨0,zzZ _,rfl,zzH (fun j _ h=>absurd h (zzC _))⟩
 case round=>
  obtain⟨k,hk,rfl,HK⟩:=hrel;by_cases hlt:k<16
  ·have hc:=HB.out k hlt
   have HE:Hid (zeO[k]'hlt=op->zbu op=true):=zzH (zjP hlt)
   have HN:Hid (zeO[k]'hlt≠op-> ∀j (h:j<16),j<k+1->zeO[j]'h≠op):=zzH (fun hne j h hj=>by
    rcases Nat.eq_or_lt_of_le (Nat.le_of_lt_succ hj)with e|e
    ·subst e;exact hne
    ·exact HK.out j h e)
   generalize zeO[k]'hlt=x at *;by_cases c:x=op
   ·have E:=zzH (HE.out c)
    have hb:(x==op)=true:=by rw [c];exact beq_self_eq_true _
    clear c;go_wp2;go_ret;exact⟨zl E.out.symm,hbel⟩
   ·have HN2:=zzH (HN.out c)
    have hb:(x==op)=false:=zzB.2 c;clear c;go_wp2;go_round
    case rel=>exact⟨k+1,by omega,by go_num,HN2⟩
    case measure=>simp [intOf];omega
  ·have E:Hid (zbu op=false):=zzH (by
    unfold zbu;refine zzD (fun hm=>?_);obtain⟨j,hj,e⟩:=List.getElem_of_mem hm;exact HK.out j hj (by have:j<16:=hj;omega) e)
   go_wp2;go_ret;exact⟨zl E.out.symm,hbel⟩
end Go.Proofs.YthajedcbgnloeaaGreatDoor
