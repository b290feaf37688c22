/- part 3 -/
import Derived.Shelf.Small.Bits
import Derived.Shelf.Small.Strs
import Derived.Shelf.Small.Wraps
import Derived.Shelf.Strconv.Itoa0
import Derived.Shelf.Strings.Search1
import Derived.Shelf.Strings.Search2
import Derived.Shelf.Strings.Search3
import Derived.Shelf.LaysM
import Derived.Shelf.Strings.Shaped
import Derived.Shelf.Sort.Plain
import Derived.Shelf.Strings.Fields
import Derived.Shelf.Strings.SplitShaped
import Derived.Shelf.Unicode.Latin
import Derived.Shelf.Unicode.Is16White
import Derived.Shelf.Unicode.IsSpaceAny
import Derived.Shelf.Unicode.Is16Any
import Derived.Shelf.Unicode.Is32Any
import Derived.Shelf.Unicode.ExclAny
import Derived.Shelf.Slices.Equal
import Derived.Ground.Names2Prog
import Derived.Shelf.Slices.Clone
import Derived.Shelf.Slices.CompactI
import Derived.Shelf.Slices.SearchI
import Derived.Shelf.Slices.Cells
import Derived.Shelf.Slices.In.SortNone
import Derived.Shelf.Slices.Empties2
import Derived.Ground.SlgnProg
import Derived.Shelf.SlicesE.Clone
import Derived.Test.YtepjanajflkakaaGreatDoorUnrAll01
namespace Go.Proofs.YtepjanajflkakaaGreatDoor
open Go.RowKit
set_option linter.unusedVariables false
set_option linter.unusedSimpArgs false
set_option maxRecDepth 100000
set_option maxHeartbeats 40000000
open Go.Shelf
def Tryz.lays106_ren:Go.Shelf.Ren:=⟨fun|106=>183|213=>225|265=>239|n=>n,fun|9=>9|3=>3|n=>n,fun|n=>n⟩
theorem Tryz.lays106:Go.Proofs.Lays.n106 Tryz.prog Tryz.lays106_ren:={
 mixed:=by kernel_rfl
 f106:=Tryz.func183.trans (congrArg some (by kernel_rfl))
 f213:=Tryz.func225.trans (congrArg some (by kernel_rfl))
 f265:=Tryz.func239.trans (congrArg some (by kernel_rfl))
 t3:=Tryz.underlying3
 a3:=Tryz.isAgg3
 z3:=Tryz.sizeOf3
 v3:=Tryz.zeroValue3
 t9:=Tryz.underlying9
 a9:=Tryz.isAgg9
 z9:=Tryz.sizeOf9
 v9:=Tryz.zeroValue9}
open Go.RowKit in
theorem Tryz.strings_Compare (a b:ByteArray) (w:World):
  Calls Tryz.prog 183 #[.string a,.string b] w fun e w'=>e= .returned (.int .i64 (Lib.compareBytes a.data.toList b.data.toList))/\w'=w:=Any.strings_Compare Tryz.lays106 a b w
def Tryz.lays122_ren:Go.Shelf.Ren:=⟨fun|122=>178|215=>222|n=>n,fun|3=>3|4=>4|n=>n,fun|n=>n⟩
theorem Tryz.lays122:Go.Proofs.Lays.n122 Tryz.prog Tryz.lays122_ren:={
 mixed:=by kernel_rfl
 f122:=Tryz.func178.trans (congrArg some (by kernel_rfl))
 f215:=Tryz.func222.trans (congrArg some (by kernel_rfl))
 t3:=Tryz.underlying3
 a3:=Tryz.isAgg3
 z3:=Tryz.sizeOf3
 v3:=Tryz.zeroValue3
 t4:=Tryz.underlying4
 a4:=Tryz.isAgg4
 z4:=Tryz.sizeOf4
 v4:=Tryz.zeroValue4}
open Go.RowKit in
theorem Tryz.cmp_Compare_int (x y:Int) (w:World):
  Calls Tryz.prog 178 #[.int .i64 x,.int .i64 y] w fun e w'=>e= .returned (.int .i64 (Lib.compareInt x y))/\w'=w:=Any.cmp_Compare_int Tryz.lays122 x y w
def Tryz.lays144_ren:Go.Shelf.Ren:=⟨fun|144=>124|143=>156|219=>175|217=>217|225=>218|224=>219|267=>220|266=>234|314=>235|n=>n,fun|9=>9|4=>4|3=>3|5=>5|46=>218|146=>268|51=>243|n=>n,fun|1=>2|n=>n⟩
theorem Tryz.lays144:Go.Proofs.Lays.n144 Tryz.prog Tryz.lays144_ren:={
 mixed:=by kernel_rfl
 f143:=Tryz.func156.trans (congrArg some (by kernel_rfl))
 f144:=Tryz.func124.trans (congrArg some (by kernel_rfl))
 f217:=Tryz.func217.trans (congrArg some (by kernel_rfl))
 f219:=Tryz.func175.trans (congrArg some (by kernel_rfl))
 f224:=Tryz.func219.trans (congrArg some (by kernel_rfl))
 f225:=Tryz.func218.trans (congrArg some (by kernel_rfl))
 f266:=Tryz.func234.trans (congrArg some (by kernel_rfl))
 f267:=Tryz.func220.trans (congrArg some (by kernel_rfl))
 f314:=Tryz.func235.trans (congrArg some (by kernel_rfl))
 t3:=Tryz.underlying3
 a3:=Tryz.isAgg3
 z3:=Tryz.sizeOf3
 v3:=Tryz.zeroValue3
 t4:=Tryz.underlying4
 a4:=Tryz.isAgg4
 z4:=Tryz.sizeOf4
 v4:=Tryz.zeroValue4
 t5:=Tryz.underlying5
 a5:=Tryz.isAgg5
 z5:=Tryz.sizeOf5
 v5:=Tryz.zeroValue5
 t9:=Tryz.underlying9
 a9:=Tryz.isAgg9
 z9:=Tryz.sizeOf9
 v9:=Tryz.zeroValue9
 t46:=Tryz.underlying218
 a46:=Tryz.isAgg218
 z46:=Tryz.sizeOf218
 v46:=Tryz.zeroValue218
 t51:=Tryz.underlying243
 a51:=Tryz.isAgg243
 z51:=Tryz.sizeOf243
 v51:=Tryz.zeroValue243
 t146:=Tryz.underlying268
 a146:=Tryz.isAgg268
 z146:=Tryz.sizeOf268
 v146:=Tryz.zeroValue268
 g1:=by kernel_rfl}
open Go.RowKit Go.Lib in
theorem Tryz.strings_Contains_one (s:ByteArray) (c:UInt8) (w:World):
  Calls Tryz.prog 124 #[.string s,.string ⟨#[c]⟩] w fun e w'=>e= .returned (.bool (decide (0<=Lib.indexByte s.data.toList c)))/\w'=w:=Any.strings_Contains_one Tryz.lays144 s c w
def Tryz.lays189_ren:Go.Shelf.Ren:=⟨fun|189=>140|125=>163|257=>162|128=>194|129=>195|294=>185|295=>186|296=>187|297=>188|298=>189|299=>190|216=>191|300=>192|301=>193|328=>227|329=>228|330=>229|331=>230|332=>231|215=>222|343=>240|n=>n,fun|28=>38|3=>3|46=>218|0=>0|51=>243|53=>213|4=>4|183=>236|182=>235|131=>67|5=>5|9=>9|218=>260|222=>264|228=>282|229=>283|n=>n,fun|n=>n⟩
theorem Tryz.lays189:Go.Proofs.Lays.n189 Tryz.prog Tryz.lays189_ren:={
 mixed:=by kernel_rfl
 f125:=Tryz.func163.trans (congrArg some (by kernel_rfl))
 f128:=Tryz.func194.trans (congrArg some (by kernel_rfl))
 f129:=Tryz.func195.trans (congrArg some (by kernel_rfl))
 f189:=Tryz.func140.trans (congrArg some (by kernel_rfl))
 f215:=Tryz.func222.trans (congrArg some (by kernel_rfl))
 f216:=Tryz.func191.trans (congrArg some (by kernel_rfl))
 f257:=Tryz.func162.trans (congrArg some (by kernel_rfl))
 f294:=Tryz.func185.trans (congrArg some (by kernel_rfl))
 f295:=Tryz.func186.trans (congrArg some (by kernel_rfl))
 f296:=Tryz.func187.trans (congrArg some (by kernel_rfl))
 f297:=Tryz.func188.trans (congrArg some (by kernel_rfl))
 f298:=Tryz.func189.trans (congrArg some (by kernel_rfl))
 f299:=Tryz.func190.trans (congrArg some (by kernel_rfl))
 f300:=Tryz.func192.trans (congrArg some (by kernel_rfl))
 f301:=Tryz.func193.trans (congrArg some (by kernel_rfl))
 f328:=Tryz.func227.trans (congrArg some (by kernel_rfl))
 f329:=Tryz.func228.trans (congrArg some (by kernel_rfl))
 f330:=Tryz.func229.trans (congrArg some (by kernel_rfl))
 f331:=Tryz.func230.trans (congrArg some (by kernel_rfl))
 f332:=Tryz.func231.trans (congrArg some (by kernel_rfl))
 f343:=Tryz.func240.trans (congrArg some (by kernel_rfl))
 t0:=Tryz.underlying0
 a0:=Tryz.isAgg0
 z0:=Tryz.sizeOf0
 v0:=Tryz.zeroValue0
 t3:=Tryz.underlying3
 a3:=Tryz.isAgg3
 z3:=Tryz.sizeOf3
 v3:=Tryz.zeroValue3
 t4:=Tryz.underlying4
 a4:=Tryz.isAgg4
 z4:=Tryz.sizeOf4
 v4:=Tryz.zeroValue4
 t5:=Tryz.underlying5
 a5:=Tryz.isAgg5
 z5:=Tryz.sizeOf5
 v5:=Tryz.zeroValue5
 t9:=Tryz.underlying9
 a9:=Tryz.isAgg9
 z9:=Tryz.sizeOf9
 v9:=Tryz.zeroValue9
 t28:=Tryz.underlying38
 a28:=Tryz.isAgg38
 z28:=Tryz.sizeOf38
 v28:=Tryz.zeroValue38
 t46:=Tryz.underlying218
 a46:=Tryz.isAgg218
 z46:=Tryz.sizeOf218
 v46:=Tryz.zeroValue218
 t51:=Tryz.underlying243
 a51:=Tryz.isAgg243
 z51:=Tryz.sizeOf243
 v51:=Tryz.zeroValue243
 t53:=Tryz.underlying213
 a53:=Tryz.isAgg213
 z53:=Tryz.sizeOf213
 v53:=Tryz.zeroValue213
 t131:=Tryz.underlying67
 a131:=Tryz.isAgg67
 z131:=Tryz.sizeOf67
 v131:=Tryz.zeroValue67
 t182:=Tryz.underlying235
 a182:=Tryz.isAgg235
 z182:=Tryz.sizeOf235
 v182:=Tryz.zeroValue235
 t183:=Tryz.underlying236
 a183:=Tryz.isAgg236
 z183:=Tryz.sizeOf236
 v183:=Tryz.zeroValue236
 t218:=Tryz.underlying260
 a218:=Tryz.isAgg260
 z218:=Tryz.sizeOf260
 v218:=Tryz.zeroValue260
 t222:=Tryz.underlying264
 a222:=Tryz.isAgg264
 z222:=Tryz.sizeOf264
 v222:=Tryz.zeroValue264
 t228:=Tryz.underlying282
 a228:=Tryz.isAgg282
 z228:=Tryz.sizeOf282
 v228:=Tryz.zeroValue282
 t229:=Tryz.underlying283
 a229:=Tryz.isAgg283
 z229:=Tryz.sizeOf283
 v229:=Tryz.zeroValue283}
open Go.Sort Go.RowKit in
theorem Tryz.slices_Sort_int (blk off cap:Nat) (zs:List Int) (w:World) (hH:Holds (Value.int .i64) w blk off zs.toArray) (hblk:blk<w.heap.size) (hsz:zs.length<4611686018427387904):
  Calls Tryz.prog 140 #[.slice (some ⟨blk,off,none⟩) zs.length cap] w fun e w'=>
   e= .returned (.tuple #[])/\ ∃n os,w'=grow (putRow (Value.int .i64) (Sort.ahead w n) blk off (zs.mergeSort fun x y=>decide (x<=y)).toArray) os:=Any.slices_Sort_int Tryz.lays189 blk off cap zs w hH hblk hsz
def Tryz.lays157_ren:Go.Shelf.Ren:=⟨fun|157=>158|229=>176|199=>177|261=>221|311=>236|312=>237|n=>n,fun|9=>9|31=>209|3=>3|5=>5|4=>4|119=>230|0=>0|40=>232|152=>252|21=>21|154=>254|51=>243|141=>256|196=>273|193=>270|198=>276|49=>274|194=>271|201=>279|226=>285|46=>218|227=>286|n=>n,fun|0=>1|6=>3|n=>n⟩
theorem Tryz.lays157:Go.Proofs.Lays.n157 Tryz.prog Tryz.lays157_ren:={
 mixed:=by kernel_rfl
 f157:=Tryz.func158.trans (congrArg some (by kernel_rfl))
 f199:=Tryz.func177.trans (congrArg some (by kernel_rfl))
 f229:=Tryz.func176.trans (congrArg some (by kernel_rfl))
 f261:=Tryz.func221.trans (congrArg some (by kernel_rfl))
 f311:=Tryz.func236.trans (congrArg some (by kernel_rfl))
 f312:=Tryz.func237.trans (congrArg some (by kernel_rfl))
 t0:=Tryz.underlying0
 a0:=Tryz.isAgg0
 z0:=Tryz.sizeOf0
 v0:=Tryz.zeroValue0
 t3:=Tryz.underlying3
 a3:=Tryz.isAgg3
 z3:=Tryz.sizeOf3
 v3:=Tryz.zeroValue3
 t4:=Tryz.underlying4
 a4:=Tryz.isAgg4
 z4:=Tryz.sizeOf4
 v4:=Tryz.zeroValue4
 t5:=Tryz.underlying5
 a5:=Tryz.isAgg5
 z5:=Tryz.sizeOf5
 v5:=Tryz.zeroValue5
 t9:=Tryz.underlying9
 a9:=Tryz.isAgg9
 z9:=Tryz.sizeOf9
 v9:=Tryz.zeroValue9
 t21:=Tryz.underlying21
 a21:=Tryz.isAgg21
 z21:=Tryz.sizeOf21
 v21:=Tryz.zeroValue21
 t31:=Tryz.underlying209
 a31:=Tryz.isAgg209
 z31:=Tryz.sizeOf209
 v31:=Tryz.zeroValue209
 t40:=Tryz.underlying232
 a40:=Tryz.isAgg232
 z40:=Tryz.sizeOf232
 v40:=Tryz.zeroValue232
 t46:=Tryz.underlying218
 a46:=Tryz.isAgg218
 z46:=Tryz.sizeOf218
 v46:=Tryz.zeroValue218
 t49:=Tryz.underlying274
 a49:=Tryz.isAgg274
 z49:=Tryz.sizeOf274
 v49:=Tryz.zeroValue274
 t51:=Tryz.underlying243
 a51:=Tryz.isAgg243
 z51:=Tryz.sizeOf243
 v51:=Tryz.zeroValue243
 t119:=Tryz.underlying230
 a119:=Tryz.isAgg230
 z119:=Tryz.sizeOf230
 t141:=Tryz.underlying256
 a141:=Tryz.isAgg256
 z141:=Tryz.sizeOf256
 v141:=Tryz.zeroValue256
 t152:=Tryz.underlying252
 a152:=Tryz.isAgg252
 z152:=Tryz.sizeOf252
 v152:=Tryz.zeroValue252
 t154:=Tryz.underlying254
 a154:=Tryz.isAgg254
 z154:=Tryz.sizeOf254
 v154:=Tryz.zeroValue254
 t193:=Tryz.underlying270
 a193:=Tryz.isAgg270
 z193:=Tryz.sizeOf270
 v193:=Tryz.zeroValue270
 t194:=Tryz.underlying271
 a194:=Tryz.isAgg271
 z194:=Tryz.sizeOf271
 v194:=Tryz.zeroValue271
 t196:=Tryz.underlying273
 a196:=Tryz.isAgg273
 z196:=Tryz.sizeOf273
 v196:=Tryz.zeroValue273
 t198:=Tryz.underlying276
 a198:=Tryz.isAgg276
 z198:=Tryz.sizeOf276
 v198:=Tryz.zeroValue276
 t201:=Tryz.underlying279
 a201:=Tryz.isAgg279
 z201:=Tryz.sizeOf279
 v201:=Tryz.zeroValue279
 t226:=Tryz.underlying285
 a226:=Tryz.isAgg285
 z226:=Tryz.sizeOf285
 v226:=Tryz.zeroValue285
 t227:=Tryz.underlying286
 a227:=Tryz.isAgg286
 z227:=Tryz.sizeOf286
 v227:=Tryz.zeroValue286
 g0:=by kernel_rfl
 g6:=by kernel_rfl}
open Go.RowKit Go.Lib in
theorem Tryz.strings_Fields (s:ByteArray) (w:World) (hs:s.size<4294967281) (hascii: ∀(j:Nat) b,s.data.toList[j]?=some b->b.toNat<128) (htab:Lib.TabIs Tryz.prog w "strings.asciiSpace" .u8 Lib.asciiSpaceTab):
  Calls Tryz.prog 158 #[.string s] w fun e w'=>
   e= .returned (.slice (some ⟨w.heap.size,0,none⟩) (Lib.fields s.data.toList).length (Lib.fields s.data.toList).length)/\w'=w.alloc (.cells ((Lib.fields s.data.toList).map fun l=>Value.string ⟨l.toArray⟩).toArray 9):=Any.strings_Fields Tryz.lays157 (by kernel_rfl) (by kernel_rfl) s w hs hascii htab
def Tryz.lays111_ren:Go.Shelf.Ren:=⟨fun|111=>129|n=>n,fun|28=>38|3=>3|4=>4|0=>0|n=>n,fun|n=>n⟩
theorem Tryz.lays111:Go.Proofs.Lays.n111 Tryz.prog Tryz.lays111_ren:={
 mixed:=by kernel_rfl
 f111:=Tryz.func129.trans (congrArg some (by kernel_rfl))
 t0:=Tryz.underlying0
 a0:=Tryz.isAgg0
 z0:=Tryz.sizeOf0
 v0:=Tryz.zeroValue0
 t3:=Tryz.underlying3
 a3:=Tryz.isAgg3
 z3:=Tryz.sizeOf3
 v3:=Tryz.zeroValue3
 t4:=Tryz.underlying4
 a4:=Tryz.isAgg4
 z4:=Tryz.sizeOf4
 v4:=Tryz.zeroValue4
 t28:=Tryz.underlying38
 a28:=Tryz.isAgg38
 z28:=Tryz.sizeOf38
 v28:=Tryz.zeroValue38}
open Go.RowKit Go.Lib in
theorem Tryz.slices_Equal_int (b1 o1 n c b2 o2 m d:Nat) (xs ys:List Int) (w:World) (hx:n<=xs.length) (hy:m<=ys.length) (hbig:n<=9223372036854775807) (hbig2:m<=9223372036854775807) (hc1: ∀j,j<xs.length->w.cell? ⟨b1,o1+j,none⟩=some (.int .i64 (xs.getD j 0))) (hc2: ∀j,j<ys.length->w.cell? ⟨b2,o2+j,none⟩=some (.int .i64 (ys.getD j 0))):
  Calls Tryz.prog 129 #[.slice (some ⟨b1,o1,none⟩) n c,.slice (some ⟨b2,o2,none⟩) m d] w fun e w'=>e= .returned (.bool (xs.take n==ys.take m))/\ ∃q,w'=w.drewN q:=Any.slices_Equal_int Tryz.lays111 b1 o1 n c b2 o2 m d xs ys w hx hy hbig hbig2 hc1 hc2
open Go.RowKit Go.Lib in
theorem Tryz.slices_Equal_int_empty (a1 a2:Option Addr) (c m d:Nat) (w:World) (hbig2:m<=9223372036854775807):
  Calls Tryz.prog 129 #[.slice a1 0 c,.slice a2 m d] w fun e w'=>e= .returned (.bool (decide (m=0)))/\w'=w:=Any.slices_Equal_int_empty Tryz.lays111 a1 a2 c m d w hbig2
def Tryz.laysNm215_ren:Go.Shelf.Ren:=⟨fun|15=>36|n=>n,fun|22=>38|3=>3|4=>4|n=>n,fun|n=>n⟩
theorem Tryz.laysNm215:Go.Proofs.Lays2.n15 Tryz.prog Tryz.laysNm215_ren:={
 mixed:=by kernel_rfl
 f15:=Tryz.func36.trans (congrArg some (by kernel_rfl))
 t3:=Tryz.underlying3
 a3:=Tryz.isAgg3
 z3:=Tryz.sizeOf3
 v3:=Tryz.zeroValue3
 t4:=Tryz.underlying4
 a4:=Tryz.isAgg4
 z4:=Tryz.sizeOf4
 v4:=Tryz.zeroValue4
 t22:=Tryz.underlying38
 a22:=Tryz.isAgg38
 z22:=Tryz.sizeOf38
 v22:=Tryz.zeroValue38
 i3:=by kernel_rfl}
open Go.RowKit Go.Lib in
theorem Tryz.slices_Clone_int (b off n c:Nat) (zs:List Int) (w:World) (hz:n<=zs.length) (hbig:n*8<=140737488355328) (hc: ∀j,j<zs.length->w.cell? ⟨b,off+j,none⟩=some (.int .i64 (zs.getD j 0))):
  Calls Tryz.prog 36 #[.slice (some ⟨b,off,none⟩) n c] w fun e w'=> ∃v',e= .returned v'/\w'.ownsRow w.heap.size 3 1 v' n ((zs.take n).map (Value.int .i64))/\v'≠ .slice none 0 0/\Below w.heap.size w w':=Any.slices_Clone_int Tryz.laysNm215 b off n c zs w hz hbig hc
open Go.RowKit Go.Lib in
theorem Tryz.slices_Clone_int_nil (n c:Nat) (w:World):
  Calls Tryz.prog 36 #[.slice none n c] w fun e w'=>e= .returned (.slice none 0 0)/\w'=w:=Any.slices_Clone_int_nil Tryz.laysNm215 n c w
open Go.RowKit Go.Lib in
theorem Tryz.slices_Clone_int_zero (a:Addr) (c:Nat) (w:World):
  Calls Tryz.prog 36 #[.slice (some a) 0 c] w fun e w'=> ∃v',e= .returned v'/\w'.ownsRow w.heap.size 3 1 v' 0 []/\v'≠ .slice none 0 0/\Below w.heap.size w w':=Any.slices_Clone_int_zero Tryz.laysNm215 a c w
def Tryz.laysNm220_ren:Go.Shelf.Ren:=⟨fun|20=>141|n=>n,fun|22=>38|3=>3|4=>4|0=>0|n=>n,fun|n=>n⟩
theorem Tryz.laysNm220:Go.Proofs.Lays2.n20 Tryz.prog Tryz.laysNm220_ren:={
 mixed:=by kernel_rfl
 f20:=Tryz.func141.trans (congrArg some (by kernel_rfl))
 t0:=Tryz.underlying0
 a0:=Tryz.isAgg0
 z0:=Tryz.sizeOf0
 v0:=Tryz.zeroValue0
 t3:=Tryz.underlying3
 a3:=Tryz.isAgg3
 z3:=Tryz.sizeOf3
 v3:=Tryz.zeroValue3
 t4:=Tryz.underlying4
 a4:=Tryz.isAgg4
 z4:=Tryz.sizeOf4
 v4:=Tryz.zeroValue4
 t22:=Tryz.underlying38
 a22:=Tryz.isAgg38
 z22:=Tryz.sizeOf38
 v22:=Tryz.zeroValue38
 i3:=by kernel_rfl}
open Go.RowKit Go.Lib Go.Sort in
theorem Tryz.slices_Compact_int (blk off cap:Nat) (zs:List Int) (w:World) (hH:Holds (Value.int .i64) w blk off zs.toArray) (hsz:zs.length<=9223372036854775807) (hcap:zs.length<=cap):
  Calls Tryz.prog 141 #[.slice (some ⟨blk,off,none⟩) zs.length cap] w fun e w'=>e= .returned (.slice (some ⟨blk,off,none⟩) (Lib.compact zs).length cap)/\ ∃q,w'=putRow (Value.int .i64) (Sort.ahead w q) blk off (Lib.compact zs++List.replicate (zs.length-(Lib.compact zs).length) 0).toArray:=Any.slices_Compact_int Tryz.laysNm220 blk off cap zs w hH hsz hcap
open Go.RowKit Go.Lib Go.Sort in
theorem Tryz.slices_Compact_int_empty (a:Option Addr) (cap:Nat) (w:World):
  Calls Tryz.prog 141 #[.slice a 0 cap] w fun e w'=>e= .returned (.slice a 0 cap)/\w'=w:=Any.slices_Compact_int_empty Tryz.laysNm220 a cap w
open Go.RowKit Go.Sort in
theorem Tryz.slices_Sort_int_none (p:Option Addr) (cap:Nat) (w:World):
  Calls Tryz.prog 140 #[.slice p 0 cap] w fun e w'=>e= .returned (.tuple #[])/\w'=w:=Any.slices_Sort_int_none Tryz.lays189 p cap w
open Go.RowKit Go.Lib in
theorem Tryz.slices_Equal_int_lens (a1 a2:Option Addr) (n c m d:Nat) (w:World) (hnm:n≠m):
  Calls Tryz.prog 129 #[.slice a1 n c,.slice a2 m d] w fun e w'=>e= .returned (.bool false)/\w'=w:=Any.slices_Equal_int_lens Tryz.lays111 a1 a2 n c m d w hnm
theorem puts_map {t:VSt} (ht:trimT t.x=t.x): ∀(l:List Nat) (M:Nat->Option VM) (j:Nat),(l.map (fun k=>(k,t))).foldl putM M j=if j∈l then addV (M j) t else M j
 |[],M,j=>rfl
 |k::l,M,j=>by
  rw [List.map_cons,List.foldl_cons,puts_map ht l]
  unfold putM
  by_cases e:j=k
  ·subst e
   rw [if_pos (List.mem_cons_self ..)]
   simp only [if_true]
   by_cases h:j∈l
   ·rw [if_pos h];exact add_twice _ _ ht
   ·rw [if_neg h]
  ·simp only [e,if_false]
   by_cases h:j∈l
   ·rw [if_pos h,if_pos (List.mem_cons_of_mem _ h)]
   ·rw [if_neg h,if_neg (fun h'=>(List.mem_cons.1 h').elim e h)]
theorem puts_ext {t:VSt} (ht:trimT t.x=t.x) {l m:List Nat} (h: ∀j,j∈l↔j∈m) (M:Nat->Option VM):(l.map (fun k=>(k,t))).foldl putM M=(m.map (fun k=>(k,t))).foldl putM M:=by
 funext j
 rw [puts_map ht,puts_map ht]
 by_cases c:j∈l
 ·rw [if_pos c,if_pos ((h j).1 c)]
 ·rw [if_neg c,if_neg (fun x=>c ((h j).2 x))]
structure JumpOk (n i:Nat) (x:RIns):Prop where
 case: ∀c∈x.cases,(i:Int)<c.to/\c.to<n
 sel:x.cases≠ []->x.op=12
 «to»:toB x.op=true->0<=x.to/\x.to<n
 fwd:toB x.op=true->x.op≠39->x.op≠40->(i:Int)<x.to
 non:toB x.op=false->x.op≠28->x.to=0
def tosV (i:Nat) (x:RIns):List Nat:=(if toB x.op=true/\(i:Int)<x.to then [x.to.toNat]else [])++x.cases.map (fun c=>c.to.toNat)
theorem adds_tos (u:RUnit) (i:Nat) (s:VSt) (x:RIns):addsV u i s x=(tosV i x).map (fun k=>(k,toV s x))++((if raises x.op=true/\s.tries≠ []then [((lastT s.tries).toNat,handV s)]else [])++(if followsV x.op=true then [(i+1,nextV u i s x)]else [])):=by
 unfold addsV tosV
 rw [List.map_append,List.append_assoc,List.map_map]
 congr 1
 split<;>rfl
def goB (i:Nat) (x:RIns) (k:Int):Bool:=decide ((i:Int)+1<k)||(decide (k=(i:Int)+1)&&((decide (x.to=k)&& !decide (x.op=28))||x.cases.any (fun c=>decide (c.to=k))))
def passL (i:Nat) (s t:VSt) (x:RIns):List Int->(Nat->Option VM)->Int × (Nat->Option VM)
 |[],M=>(0,M)
 |k::l,M=>if goB i x k=true then passL i s t x l (putM M (k.toNat,t))else if k<=i/\backB (stM M k.toNat) s=true then(184,M)else passL i s t x l M
def SuccOk (n i:Nat) (x:RIns) (ks:List Int):Prop:= ∀k,k∈ks↔k∈targetsV i x/\0<=k/\k<n
theorem goB_gt {i:Nat} {x:RIns} {k:Int} (h:goB i x k=true):(i:Int)<k:=by
 unfold goB at h
 simp at h
 omega
theorem go_mem {n i:Nat} {x:RIns} {ks:List Int} (hk:SuccOk n i x ks) (hj:JumpOk n i x) (j:Nat):j∈(ks.filter (goB i x)).map Int.toNat↔j∈tosV i x:=by
 constructor
 ·intro h
  obtain⟨k,hk1,rfl⟩:=List.mem_map.1 h
  obtain⟨h1,h2⟩:=List.mem_filter.1 hk1
  obtain⟨h3,h4,h5⟩:=(hk k).1 h1
  have hgt:=goB_gt h2
  unfold tosV
  unfold targetsV at h3
  rcases List.mem_append.1 h3 with h3|h3
  ·have hf:k=(i:Int)+1:=by
    by_cases c:followsV x.op=true
    ·rw [if_pos c]at h3;simpa using h3
    ·rw [if_neg c]at h3;simp at h3
   unfold goB at h2
   rw [Bool.or_eq_true,Bool.and_eq_true,Bool.or_eq_true,Bool.and_eq_true]at h2
   rcases h2 with h2|⟨-,⟨h2,h6⟩|h2⟩
   ·have:=of_decide_eq_true h2;omega
   ·have e1:=of_decide_eq_true h2
    have e2:x.op≠28:=by simpa using h6
    by_cases c:toB x.op=true
    ·refine List.mem_append_left _ ?_
     rw [if_pos ⟨c,by omega⟩,e1];exact List.mem_singleton.2 rfl
    ·have:=hj.non (by simpa using c) e2;omega
   ·obtain⟨c,hc1,hc2⟩:=List.any_eq_true.1 h2
    refine List.mem_append_right _ (List.mem_map.2 ⟨c,hc1,?_⟩)
    rw [of_decide_eq_true hc2]
  ·rcases List.mem_append.1 h3 with h3|h3
   ·by_cases c:toB x.op=true
    ·rw [if_pos c]at h3
     have e:=List.mem_singleton.1 h3
     refine List.mem_append_left _ ?_
     rw [if_pos ⟨c,by omega⟩,e];exact List.mem_singleton.2 rfl
    ·rw [if_neg c]at h3;simp at h3
   ·by_cases c:x.op=12
    ·rw [if_pos c]at h3
     obtain⟨c,hc1,hc2⟩:=List.mem_map.1 h3
     exact List.mem_append_right _ (List.mem_map.2 ⟨c,hc1,by rw [hc2]⟩)
    ·rw [if_neg c]at h3;simp at h3
 ·intro h
  unfold tosV at h
  rcases List.mem_append.1 h with h|h
  ·by_cases c:toB x.op=true/\(i:Int)<x.to
   ·rw [if_pos c]at h
    have e:=List.mem_singleton.1 h
    have h1:=hj.to c.1
    refine List.mem_map.2 ⟨x.to,List.mem_filter.2 ⟨(hk _).2 ⟨?_,h1.1,h1.2⟩,?_⟩,e.symm⟩
    ·unfold targetsV
     refine List.mem_append_right _ (List.mem_append_left _ ?_)
     rw [if_pos c.1];exact List.mem_singleton.2 rfl
    ·have h28:x.op≠28:=fun e=>by rw [e]at c;exact absurd c.1 (by decide)
     unfold goB
     by_cases d:(i:Int)+1<x.to
     ·rw [decide_eq_true d];rfl
     ·rw [decide_eq_false d,decide_eq_true (show x.to=(i:Int)+1 by omega),decide_eq_false h28];simp
   ·rw [if_neg c]at h;simp at h
  ·obtain⟨c,hc1,rfl⟩:=List.mem_map.1 h
   have h1:=hj.case c hc1
   have h2:=hj.sel (fun e=>by rw [e]at hc1;cases hc1)
   refine List.mem_map.2 ⟨c.to,List.mem_filter.2 ⟨(hk _).2 ⟨?_,by omega,h1.2⟩,?_⟩,rfl⟩
   ·unfold targetsV
    refine List.mem_append_right _ (List.mem_append_right _ ?_)
    rw [if_pos h2];exact List.mem_map.2 ⟨c,hc1,rfl⟩
   ·unfold goB
    by_cases d:(i:Int)+1<c.to
    ·rw [decide_eq_true d];rfl
    ·have e:x.cases.any (fun c'=>decide (c'.to=c.to))=true:=List.any_eq_true.2 ⟨c,hc1,decide_eq_true rfl⟩
     rw [decide_eq_false d,decide_eq_true (show c.to=(i:Int)+1 by omega),e];simp
theorem back_is {n i:Nat} {x:RIns} {k:Int} (hj:JumpOk n i x) (h:k∈targetsV i x) (hi:k<=i):toB x.op=true/\k=x.to:=by
 unfold targetsV at h
 rcases List.mem_append.1 h with h|h
 ·by_cases c:followsV x.op=true
  ·rw [if_pos c]at h;have:=List.mem_singleton.1 h;omega
  ·rw [if_neg c]at h;simp at h
 ·rcases List.mem_append.1 h with h|h
  ·by_cases c:toB x.op=true
   ·rw [if_pos c]at h;exact⟨c,List.mem_singleton.1 h⟩
   ·rw [if_neg c]at h;simp at h
  ·by_cases c:x.op=12
   ·rw [if_pos c]at h
    obtain⟨c,hc1,hc2⟩:=List.mem_map.1 h
    have:=hj.case c hc1
    omega
   ·rw [if_neg c]at h;simp at h
theorem pass_loop {n i:Nat} {s t:VSt} {x:RIns} (hj:JumpOk n i x): ∀(ks:List Int) (M:Nat->Option VM),(∀k∈ks,k∈targetsV i x) ->
  (passL i s t x ks M).1=(if(∃k∈ks,k<=i)/\backB (stM M x.to.toNat) s=true then 184 else 0)/\((passL i s t x ks M).1=0->(passL i s t x ks M).2=(((ks.filter (goB i x)).map Int.toNat).map (fun k=>(k,t))).foldl putM M)
 |[],M,_=>⟨by rw [if_neg (by simp)];rfl,fun _=>rfl⟩
 |k::ks,M,hks=>by
  by_cases g:goB i x k=true
  ·have hgt:=goB_gt g
   obtain⟨h1,h2⟩:=pass_loop hj ks (putM M (k.toNat,t)) (fun k' h=>hks k' (List.mem_cons_of_mem _ h))
   have e:passL i s t x (k::ks) M=passL i s t x ks (putM M (k.toNat,t)):=by rw [passL,if_pos g]
   rw [e]
   refine⟨?_,fun h0=>?_⟩
   ·rw [h1]
    by_cases c: ∃k'∈ks,k'<=(i:Int)
    ·obtain⟨k',hk',hle⟩:=c
     obtain⟨-,e2⟩:=back_is hj (hks k' (List.mem_cons_of_mem _ hk')) hle
     have e3:stM (putM M (k.toNat,t)) x.to.toNat=stM M x.to.toNat:=by
      unfold stM putM
      rw [if_neg (show¬x.to.toNat=k.toNat by omega)]
     rw [e3]
     have c1: ∃k'∈ks,k'<=(i:Int):=⟨k',hk',hle⟩
     have c2: ∃k'∈k::ks,k'<=(i:Int):=⟨k',List.mem_cons_of_mem _ hk',hle⟩
     by_cases d:backB (stM M x.to.toNat) s=true
     ·rw [if_pos ⟨c1,d⟩,if_pos ⟨c2,d⟩]
     ·rw [if_neg (fun h=>d h.2),if_neg (fun h=>d h.2)]
    ·rw [if_neg (fun h=>c h.1),if_neg]
     rintro⟨⟨k',hk',hle⟩,-⟩
     rcases List.mem_cons.1 hk' with rfl|hk'
     ·omega
     ·exact c ⟨k',hk',hle⟩
   ·rw [h2 h0,List.filter_cons_of_pos g];rfl
  ·have g':goB i x k=false:=by simpa using g
   obtain⟨h1,h2⟩:=pass_loop hj ks M (fun k' h=>hks k' (List.mem_cons_of_mem _ h))
   by_cases c:k<=(i:Int)
   ·obtain⟨-,e2⟩:=back_is hj (hks k (List.mem_cons_self ..)) c
    by_cases d:backB (stM M k.toNat) s=true
    ·have e:passL i s t x (k::ks) M=(184,M):=by rw [passL,if_neg g,if_pos ⟨c,d⟩]
     rw [e]
     refine⟨?_,fun h0=>absurd (show(184:Int)=0 from h0) (by decide)⟩
     rw [if_pos ⟨⟨k,List.mem_cons_self ..,c⟩,by rw [<-e2];exact d⟩]
    ·have e:passL i s t x (k::ks) M=passL i s t x ks M:=by rw [passL,if_neg g,if_neg (fun h=>d h.2)]
     rw [e]
     refine⟨?_,fun h0=>?_⟩
     ·rw [h1,if_neg (fun h=>d (by rw [e2];exact h.2)),if_neg (fun h=>d (by rw [e2];exact h.2))]
     ·rw [h2 h0,List.filter_cons_of_neg (by rw [g'];decide)]
   ·have e:passL i s t x (k::ks) M=passL i s t x ks M:=by rw [passL,if_neg g,if_neg (fun h=>c h.1)]
    rw [e]
    refine⟨?_,fun h0=>?_⟩
    ·rw [h1]
     have e1:(∃k'∈k::ks,k'<=(i:Int))↔ ∃k'∈ks,k'<=(i:Int):=⟨fun⟨k',h,hle⟩=>(List.mem_cons.1 h).elim (fun e=>absurd hle (by rw [e];exact c)) fun h=>⟨k',h,hle⟩,fun⟨k',h,hle⟩=>⟨k',List.mem_cons_of_mem _ h,hle⟩⟩
     simp only [e1]
    ·rw [h2 h0,List.filter_cons_of_neg (by rw [g'];decide)]
theorem pass_is {n i:Nat} {s t:VSt} {x:RIns} {ks:List Int} (hk:SuccOk n i x ks) (hj:JumpOk n i x) (ht:trimT t.x=t.x) (hi:i<n) (M:Nat->Option VM):
  (passL i s t x ks M).1=(if toB x.op=true/\x.to<=i/\backB (stM M x.to.toNat) s=true then 184 else 0)/\((passL i s t x ks M).1=0->(passL i s t x ks M).2=((tosV i x).map (fun k=>(k,t))).foldl putM M):=by
 obtain⟨h1,h2⟩:=pass_loop (s:=s) (t:=t) hj ks M (fun k h=>((hk k).1 h).1)
 refine⟨?_,fun h0=>?_⟩
 ·rw [h1]
  have e:(∃k∈ks,k<=(i:Int))↔toB x.op=true/\x.to<=i:=by
   constructor
   ·rintro⟨k,hk1,hle⟩
    obtain⟨a,b⟩:=back_is hj ((hk k).1 hk1).1 hle
    exact⟨a,by omega⟩
   ·rintro⟨a,b⟩
    obtain⟨c,d⟩:=hj.to a
    refine⟨x.to,(hk _).2 ⟨?_,c,d⟩,b⟩
    unfold targetsV
    refine List.mem_append_right _ (List.mem_append_left _ ?_)
    rw [if_pos a];exact List.mem_singleton.2 rfl
  simp only [e,and_assoc]
 ·rw [h2 h0];exact puts_ext ht (go_mem hk hj) M
theorem left_any: ∀(f:Nat) (ao:Option Addr) (c:Nat) (l:List Tm) (m:Int) (w:World),SlAt w 9 (TmAt w f) ao l->l.length<=maxLen-> -1<=m->m<=1000000 ->
  Calls Tryz.prog 52 #[.slice ao l.length c,.int .i64 m] w fun e w'=>e= .returned (.int .i64 (leftF f l m))/\Below w.heap.size w w'
 |0,ao,c,l,m,w,h,hl,h0,h1=>by
  obtain rfl:=h.zero
  have HE:Hid (leftF 0 [] m=m):=Lib.hid rfl
  go_enter Tryz.func52,Tryz.ntmps52
  go_wp2_with fail
  go_loop [1,5] (fun mv i=>mv= .int .i64 m/\i= .int .i64 0) (fun _ _=>0)
  case atStart=>exact⟨rfl,rfl⟩
  case round=>
   obtain⟨rfl,rfl⟩:=hrel
   go_wp2_with fail
   go_ret
   exact⟨ret1 HE.out.symm,Below.refl _ _⟩
 |f+1,ao,c,l,m,w,h,hl,h0,h1=>by
  have IH:=Lib.hid (left_any f)
  have HS:=Lib.hid h
  have HV:Hid (leftF (f+1) l m=leftL (leftF f) l m):=Lib.hid rfl
  have HM:=Lib.hid (leftF_le f)
  clear h
  unfold maxLen at hl
  go_enter Tryz.func52,Tryz.ntmps52
  go_wp2_with fail
  go_loopw [1,5] (fun mv i wr=> ∃(k:Nat) (m':Int),k<=l.length/\i= .int .i64 k/\mv= .int .i64 m'/\ -1<=m'/\m'<=1000000/\Hid (leftL (leftF f) l m=leftL (leftF f) (l.drop k) m')/\Below w.heap.size w wr) (fun _ i _=>l.length-(intOf i).toNat)
  case atStart=>exact⟨0,m,Nat.zero_le _,rfl,rfl,h0,h1,Lib.hid rfl,Below.refl _ _⟩
  case round=>
   obtain⟨k,m',hk,rfl,rfl,g0,g1,HG,hB⟩:=hrel
   rename World=>wr
   by_cases hlt:k<l.length
   ·by_cases hm:0<=m'
    ·have hs2:=HS.out.tms hB
     obtain⟨b,off,ai,ci,hao,hb,q0,q1,q2,q3,q4,q5,q6,q7,q8,hit,hok⟩:=hs2.tm hlt
     subst hao
     have hlong:=leftL_long (rec:=leftF f) hlt hm
     have hnext:=leftL_next (rec:=leftF f) hlt hm
     have HL1:=Lib.hid hlong;have HL2:=Lib.hid hnext;clear hlong hnext hs2
     obtain⟨_,_,_,o3,o4,_,o6,o7,_⟩:=hok
     unfold maxLen at o3 o4 o6 o7
     generalize l[k]=t at *
     have HIT:=Lib.hid hit;clear hit
     by_cases c1:m'<t.name.size
     ·have E:Hid (leftF (f+1) l m= -1):=Lib.hid (by rw [HV.out,HG.out,HL1.out (.inl c1)])
      go_wp2_with fail
      all_goals go_ret
      all_goals exact⟨ret1 E.out.symm,hB.alloc hB.size _⟩
     ·by_cases c2:m'<t.func.size
      ·have E:Hid (leftF (f+1) l m= -1):=Lib.hid (by rw [HV.out,HG.out,HL1.out (.inr (.inl c2))])
       go_wp2_with fail
       all_goals go_ret
       all_goals exact⟨ret1 E.out.symm,hB.alloc hB.size _⟩
      ·by_cases c3:m'<t.bytes.size
       ·have E:Hid (leftF (f+1) l m= -1):=Lib.hid (by rw [HV.out,HG.out,HL1.out (.inr (.inr c3))])
        go_wp2_with fail
        all_goals go_ret
        all_goals exact⟨ret1 E.out.symm,hB.alloc hB.size _⟩
       ·have E:=Lib.hid (HL2.out (by omega))
        have hBa:=hB.alloc hB.size (.cells #[.int .i64 t.kind,.int .i64 t.int,.int .i64 t.gen,.string t.name,.string t.func,.int .i64 t.arity,.slice ai t.items.length ci,.string t.bytes,.int .i64 t.bits] 116)
        have HIT2:=Lib.hid (SlAt.tms HIT.out ((Below.refl wr.heap.size wr).alloc (Nat.le_refl _) (.cells #[.int .i64 t.kind,.int .i64 t.int,.int .i64 t.gen,.string t.name,.string t.func,.int .i64 t.arity,.slice ai t.items.length ci,.string t.bytes,.int .i64 t.bits] 116)))
        have HM2:=HM.out t.items (m'-1-t.name.size/8-t.func.size/8-t.bytes.size/8) (by omega)
        generalize hn1:leftF f t.items (m'-1-t.name.size/8-t.func.size/8-t.bytes.size/8)=n1 at *
        have HN1:=Lib.hid hn1;clear hn1
        go_wp2_with fail
        refine(IH.out ai ci t.items _ _ HIT2.out (by unfold maxLen;omega) (by omega) (by omega)).mono ?_
        rintro e w5 ⟨rfl,hb5⟩
        rw [HN1.out]
        go_wp2_with fail
        go_roundw
        case rel=>exact⟨k+1,n1,by omega,by go_num,rfl,by omega,by omega,Lib.hid (by rw [HG.out,E.out]),below_next hBa hb5⟩
        case measure=>simp [intOf];omega
    ·have E:Hid (leftF (f+1) l m=m'):=Lib.hid (by rw [HV.out,HG.out,leftL_stop (.inr (by omega))])
     go_wp2_with fail
     go_ret
     exact⟨ret1 E.out.symm,hB⟩
   ·have E:Hid (leftF (f+1) l m=m'):=Lib.hid (by rw [HV.out,HG.out,leftL_stop (.inl (by rw [List.drop_eq_nil_iff];omega))])
    go_wp2_with fail
    go_ret
    exact⟨ret1 E.out.symm,hB⟩
theorem great_any (f:Nat) (ao:Option Addr) (c:Nat) (l:List Tm) (m:Int) (w:World) (h:SlAt w 9 (TmAt w f) ao l) (hl:l.length<=maxLen) (h0: -1<=m) (h1:m<=1000000):
  Calls Tryz.prog 32 #[.slice ao l.length c,.int .i64 m] w fun e w'=>e= .returned (.bool (decide (leftF f l m<0)))/\Below w.heap.size w w':=by
 have hc:=left_any f ao c l m w h hl h0 h1
 have hle:=leftF_le f l m h0
 generalize leftF f l m=n at *
 go_enter Tryz.func32,Tryz.ntmps32
 go_wp2_with fail
 refine hc.mono ?_
 rintro e w1 ⟨rfl,hb1⟩
 go_wp2_with fail
 go_ret
 exact⟨rfl,hb1⟩
section
variable {u v:RUnit}
theorem addV_not (o:Option VM) (s:VSt):addV o s≠none:=by cases o<;>simp [addV]
theorem putM_none1 {M:Nat->Option VM} {p:Nat × VSt} {j:Nat} (h:putM M p j=none):M j=none:=by
 unfold putM at h
 split at h
 ·exact absurd h (addV_not _ _)
 ·exact h
theorem puts_none: ∀{l:List (Nat × VSt)} {M:Nat->Option VM} {j:Nat},(l.foldl putM M) j=none->M j=none
 |[],_,_,h=>h
 |p::l,M,j,h=>putM_none1 (puts_none (l:=l) h)
theorem examM_none: ∀(f i:Nat) (M:Nat->Option VM) (j:Nat),(examM u f i M).2 j=none->M j=none
 |0,i,M,j,h=>h
 |f+1,i,M,j,h=>by
  unfold examM at h
  cases hm:M i with
  |none=>rw [hm]at h;exact examM_none f (i+1) M j h
  |some m=>
   rw [hm]at h
   dsimp only at h
   split at h
   ·exact h
   ·split at h
    ·exact h
    ·split at h
     ·exact h
     ·exact puts_none (examM_none f (i+1) _ j h)
theorem examM_zero: ∀(f i:Nat) (M:Nat->Option VM),(examM u f i M).1.2=0->(examM u f i M).1=(0,0)
 |0,i,M,h=>rfl
 |f+1,i,M,h=>by
  unfold examM at h ⊢
  cases hm:M i with
  |none=>rw [hm]at h;exact examM_zero f (i+1) M h
  |some m=>
   rw [hm]at h
   dsimp only at h ⊢
   split at h
   ·rename_i c;exact absurd h c
   ·rename_i c
    rw [if_neg c]
    split at h
    ·rename_i c;exact absurd h c
    ·rename_i c
     rw [if_neg c]
     split at h
     ·rename_i c;exact absurd h c
     ·rename_i c
      rw [if_neg c]
      exact examM_zero f (i+1) _ h
structure ButAt (u v:RUnit) (k:Nat):Prop where
 lits:v.lits=u.lits
 funcs:v.funcs=u.funcs
 funs:v.funs=u.funs
 len:v.code.length=u.code.length
 ins: ∀i,i≠k->v.code[i]?=u.code[i]?
theorem ButAt.kindT {k:Nat} (h:ButAt u v k):kindT v=kindT u:=by
 funext s a
 unfold Go.Proofs.YtepjanajflkakaaGreatDoor.kindT litV
 rw [h.lits]
theorem ButAt.kindE {k:Nat} (h:ButAt u v k) (i:Nat) (s:VSt) (x:RIns):checksV v i s x=checksV u i s x:=by
 unfold checksV operandsV typesV readsV argsV
 rw [h.kindT,h.funcs]
theorem ButAt.adds {k:Nat} (h:ButAt u v k) (i:Nat) (s:VSt) (x:RIns):addsV v i s x=addsV u i s x:=by
 unfold addsV nextV resultV
 rw [h.kindT]
theorem ButAt.pass {k:Nat} (h:ButAt u v k) (i:Nat) (s:VSt) (x:RIns) (S:Nat->Option VSt):passE v i s x S=passE u i s x S:=by
 unfold passE
 rw [h.len]
theorem ButAt.insV {k:Nat} (h:ButAt u v k) {i:Nat} (hi:i≠k):insV v i=insV u i:=by
 unfold Go.Proofs.YtepjanajflkakaaGreatDoor.insV
 rw [h.ins i hi]
theorem exam_but {k:Nat} (h:ButAt u v k): ∀(f i:Nat) (M:Nat->Option VM),(examM u f i M).2 k=none->examM v f i M=examM u f i M
 |0,i,M,_=>rfl
 |f+1,i,M,hk=>by
  have hMk:=examM_none (f+1) i M k hk
  unfold examM at hk ⊢
  cases hm:M i with
  |none=>rw [hm]at hk;exact exam_but h f (i+1) M hk
  |some m=>
   have hik:i≠k:=fun e=>by rw [e,hMk]at hm;cases hm
   rw [hm]at hk
   dsimp only at hk ⊢
   rw [h.insV hik,h.kindE,h.pass,h.adds]
   by_cases c1:m.wrong≠0
   ·rw [if_pos c1,if_pos c1]
   ·rw [if_neg c1]at hk
    rw [if_neg c1,if_neg c1]
    by_cases c2:checksV u i m.st (Go.Proofs.YtepjanajflkakaaGreatDoor.insV u i)≠0
    ·rw [if_pos c2,if_pos c2]
    ·rw [if_neg c2]at hk
     rw [if_neg c2,if_neg c2]
     by_cases c3:passE u i m.st (Go.Proofs.YtepjanajflkakaaGreatDoor.insV u i) (stM M)≠0
     ·rw [if_pos c3,if_pos c3]
     ·rw [if_neg c3]at hk
      rw [if_neg c3,if_neg c3]
      exact exam_but h f (i+1) _ hk
theorem unreached_law {k:Nat} (h:ButAt u v k) (hk:(examMV u).2 k=none):examMV v=examMV u:=by
 unfold examMV at hk ⊢
 have he:entriesV v=entriesV u:=by unfold entriesV;rw [h.funcs,h.funs]
 rw [he,h.len]
 exact exam_but h _ _ _ hk
end
end Go.Proofs.YtepjanajflkakaaGreatDoor
